/- Sort,Concat,members: what they come to. Own work. -/
import Derived.Test.YtpodkllkinpfmaaGreatDoorXhP24
set_option linter.all false
set_option maxRecDepth 100000
open Go.IntKind (wrap)
namespace Go.Proofs.Qh
open Go
def Asc (l:List Int):Prop:=l.Pairwise (fun a b=>a<b)
theorem FT:∀ {a b:List Int},Asc a→Asc b→(∀ x,x∈a↔x∈b)→a=b
 | [],[],_,_,_=>rfl
 | [],y::b,_,_,h=>absurd ((h y).2 (by simp)) (by simp)
 | x::a,[],_,_,h=>absurd ((h x).1 (by simp)) (by simp)
 | x::a,y::b,ha,hb,h=>by
  have ha':=List.pairwise_cons.1 ha
  have hb':=List.pairwise_cons.1 hb
  have hxy:x=y:=by
   have h1:=(h x).1 (by simp)
   have h2:=(h y).2 (by simp)
   rcases List.mem_cons.1 h1 with h1|h1
   ·exact h1
   rcases List.mem_cons.1 h2 with h2|h2
   ·exact h2.symm
   have:=hb'.1 x h1
   have:=ha'.1 y h2
   omega
  subst hxy
  rw[FT ha'.2 hb'.2 ?_]
  intro z
  have:=h z
  simp only[List.mem_cons]at this
  constructor
  ·intro hz
   rcases this.1 (.inr hz) with h1|h1
   ·have:=ha'.1 z hz;omega
   exact h1
  intro hz
  rcases this.2 (.inr hz) with h1|h1
  ·have:=hb'.1 z hz;omega
  exact h1
theorem wK {l:List Int}{x:Int}(h:Asc l)(hx:∀ y,y∈l→y<x):Asc (l++[x]):=by
 unfold Asc
 rw[List.pairwise_append]
 exact⟨h,List.pairwise_singleton _ _,fun a ha b hb=>by rw[List.mem_singleton.1 hb];exact hx a ha⟩
theorem He {l:List Int}(h:l.Pairwise (fun a b=>a≤b))(hn:l.Nodup):Asc l:=by
 unfold Asc List.Nodup at *
 have:=h.and hn
 refine this.imp ?_
 intro a b hab
 have:=hab.1
 have:=hab.2
 omega
theorem Asc.nodup {l:List Int}(h:Asc l):l.Nodup:=by
 unfold List.Nodup
 exact h.imp (fun hab=>by omega)
theorem uc {α:Type}[DecidableEq α]:∀ {l r:List α},l.Nodup→(∀ x,x∈l→x∈r)→l.length≤r.length
 | [],_,_,_=>by simp
 | x::l,r,hn,h=>by
  have hn':=List.nodup_cons.1 hn
  have hx:=h x (by simp)
  have:=uc (l:=l) (r:=r.erase x) hn'.2 (fun y hy=>by
   rw[List.mem_erase_of_ne (by intro e;subst e;exact hn'.1 hy)]
   exact h y (by simp[hy]))
  rw[List.length_erase_of_mem hx]at this
  have:0<r.length:=List.length_pos_of_mem hx
  simp only[List.length_cons]
  omega
theorem FU {α:Type}(A:List α)(b:α)(C:List α):getI (A++b::C) (A.length:Int)=some b:=by
 rw[aq (by simp)]
 simp
theorem OV {α:Type}(A:List α)(b z:α)(C:List α):(A++b::C).set A.length z=A++z::C:=by
 rw[List.set_append_right _ _ (Nat.le_refl _),Nat.sub_self];rfl
theorem Mm (x y:Int):mI x y=some (decide (x<y)):=by
 unfold mI lM
 simp[obnd]
theorem Nu (b i x:Int):∀ (n:Nat) (P:List Int),P.length=n→n≤1000→∀ Q:List Int,∃ P1 P2,P=P1++P2∧(∀ y,y∈P2→x<y)∧(∀ A y,P1=A++[y]→y≤x) ∧
  ah (aW 0 b i) ((P.length:Int),P++x::Q)=some (P1++x::P2++Q):=by
 intro n
 induction n with
 | zero=>
  intro P hP _ Q
  obtain rfl:=List.length_eq_zero_iff.1 hP
  refine⟨[],[],rfl,by simp,fun A y h=>by simp at h,?_⟩
  rw[bj]
  unfold aW
  simp
 | succ n ih=>
  intro P hP hn Q
  rcases List.eq_nil_or_concat P with rfl|⟨A,y,rfl⟩
  ·simp at hP
  rw[List.concat_eq_append]at *
  have hA:A.length=n:=by simpa using hP
  rw[bj]
  have e1:getI (A++[y]++x::Q) (((A++[y]).length:Nat):Int)=some x:=FU _ _ _
  have e2:(((A++[y]).length:Nat):Int) - 1=(A.length:Int):=by simp
  have e3:getI (A++[y]++x::Q) (A.length:Int)=some y:=by
   rw[List.append_assoc];exact FU _ _ _
  have e4:(A++[y]++x::Q).set (A++[y]).length y=A++y::(y::Q):=by
   rw[OV];simp
  by_cases hxy:x<y
  ·obtain⟨P1,P2,h1,h2,h3,h4⟩:=ih A hA (by omega) (y::Q)
   refine⟨P1,P2++[y],by rw[h1];simp,?_,h3,?_⟩
   ·intro z hz
    rcases List.mem_append.1 hz with hz|hz
    ·exact h2 z hz
    rw[List.mem_singleton.1 hz];exact hxy
   have step:aW 0 b i (((A++[y]).length:Nat),A++[y]++x::Q)=some (.next ((A.length:Int),A++x::(y::Q))):=by
    unfold aW
    simp only
    rw[if_pos (by rw[List.length_append,List.length_singleton];omega),e1]
    simp only[obnd]
    rw[wr (x:=(((A++[y]).length:Nat):Int) - 1) (by rw[List.length_append,List.length_singleton];omega) (by rw[List.length_append,List.length_singleton];omega),e2,e3]
    simp only
    rw[Mm]
    simp only
    rw[if_pos (decide_eq_true hxy),Int.toNat_natCast,e4,FU]
    simp only
    rw[Int.toNat_natCast,OV]
   rw[step]
   simp only
   rw[h4]
   simp
  refine⟨A++[y],[],by simp,by simp,?_,?_⟩
  ·intro B z hz
   have:=List.append_inj_right' hz rfl
   simp at this
   omega
  have step:aW 0 b i (((A++[y]).length:Nat),A++[y]++x::Q)=some (.done (A++[y]++x::Q)):=by
   unfold aW
   simp only
   rw[if_pos (by rw[List.length_append,List.length_singleton];omega),e1]
   simp only[obnd]
   rw[wr (x:=(((A++[y]).length:Nat):Int) - 1) (by rw[List.length_append,List.length_singleton];omega) (by rw[List.length_append,List.length_singleton];omega),e2,e3]
   simp only
   rw[Mm]
   simp only
   rw[if_neg (by rw[decide_eq_false hxy];simp)]
  rw[step]
  simp
theorem JZ (l:List Int)(h:l.length≤12):∃ r,bV l 0 (l.length:Int)=some r∧r.Perm l∧r.Pairwise (fun a b=>a≤b):=by
 unfold bV
 have key:∃ r,ah (bo 0 (l.length:Int)) (1,l)=some r∧(r.Perm l∧r.Pairwise (fun a b=>a≤b)):=by
  by_cases h0:l.length=0
  ·obtain rfl:=List.length_eq_zero_iff.1 h0
   refine⟨[],?_,List.Perm.refl _,List.Pairwise.nil⟩
   rw[bj]
   unfold bo
   simp
  refine br (l.length - 1) (fun i st=>st.1=(i:Int)+1∧st.2.Perm l∧(st.2.take (i+1)).Pairwise (fun a b=>a≤b)) _ ⟨rfl,List.Perm.refl _,?_⟩ ?_ ?_
  ·cases l with
   | nil=>simp
   | cons x l=>simp
  ·rintro i ⟨j,L⟩ hi ⟨hj,hp,hs⟩
   simp only at hj hp hs
   subst hj
   have hL:=hp.length_eq
   have hd:L.drop (i+1)=L[i+1]'(by omega)::L.drop (i+2):=List.drop_eq_getElem_cons (by omega)
   have hsplit:L=L.take (i+1)++L[i+1]'(by omega)::L.drop (i+2):=by rw[← hd,List.take_append_drop]
   generalize hx:L[i+1]'(by omega)=x at hd hsplit
   generalize hA:L.take (i+1)=A at hs hsplit
   generalize hC:L.drop (i+2)=C at hsplit
   have hAl:A.length=i+1:=by rw[← hA,List.length_take];omega
   obtain⟨P1,P2,h1,h2,h3,h4⟩:=Nu (l.length:Int) ((i:Int)+1) x A.length A rfl (by omega) C
   left
   refine⟨((i:Int)+1+1,P1++x::P2++C),?_,?_,?_,?_⟩
   ·unfold bo
    simp only
    rw[ifP,hsplit,show(i:Int)+1=(A.length:Int) by omega]at *
    rw[h4]
    simp only[obnd]
    rw[wr]
   ·simp only;omega
   ·refine List.Perm.trans ?_ hp
    rw[hsplit,h1]
    simp only[List.append_assoc,List.cons_append]
    refine List.Perm.append_left P1 ?_
    exact(List.perm_middle (a:=x) (l₁:=P2) (l₂:=C)).symm
   simp only
   have hlen:(P1++x::P2).length=i+1+1:=by
    rw[h1]at hAl
    simp at hAl ⊢
    omega
   rw[← hlen,List.take_left]
   rw[h1]at hs
   obtain⟨s1,s2,s3⟩:=List.pairwise_append.1 hs
   rw[List.pairwise_append]
   refine⟨s1,List.pairwise_cons.2 ⟨fun y hy=>Int.le_of_lt (h2 y hy),s2⟩,?_⟩
   intro a ha b hb
   have hax:a≤x:=by
    rcases List.eq_nil_or_concat P1 with rfl|⟨B,y,rfl⟩
    ·simp at ha
    rw[List.concat_eq_append]at *
    have hy:=h3 B y rfl
    rcases List.mem_append.1 ha with ha|ha
    ·have:=(List.pairwise_append.1 s1).2.2 a ha y (by simp)
     omega
    rw[List.mem_singleton.1 ha];exact hy
   rcases List.mem_cons.1 hb with rfl|hb
   ·exact hax
   have:=h2 b hb;omega
  rintro⟨j,L⟩ ⟨hj,hp,hs⟩
  simp only at hj hp hs
  subst hj
  have hL:=hp.length_eq
  unfold bo
  simp only
  rw[ifN]
  refine⟨_,rfl,hp,?_⟩
  rw[List.take_of_length_le (by omega)]at hs
  exact hs
 obtain⟨r,e,hr⟩:=key
 rw[show wrap .i64 (0+1)=1 from wr (by omega) (by omega),e]
 exact⟨r,rfl,hr⟩
theorem Ka:∀ n:Nat,n<13→(sy (wrap .u64 (n:Int))).isSome=true:=by decide +kernel
theorem Mn (l:List Int)(h:l.length≤12):∃ r,cF l=some r∧r.Perm l∧r.Pairwise (fun a b=>a≤b):=by
 unfold cF
 obtain⟨b,hb⟩:=Option.isSome_iff_exists.1 (Ka l.length (by omega))
 rw[hb]
 simp only[obnd]
 obtain⟨r,e,hr⟩:=JZ l h
 have:cR l 0 (l.length:Int) b=some r:=by
  unfold cR
  rw[bj]
  unfold gu
  rw[wr,ifP,e]
  rfl
 rw[this]
 exact⟨r,rfl,hr⟩
theorem SF (n:Nat)(h:n≤1048576):jT (n:Int)=some (List.replicate n 0,0):=by
 unfold jT
 rw[ifN,wr (x:=(0:Int) - 0),wr (x:=(n:Int) - (0 - 0))]
 by_cases h0:0<n
 ·rw[ifP,chP,chP,chP,show((n:Int) - (0 - 0)).toNat=n by omega]
 obtain rfl:n=0:=by omega
 rw[ifN];rfl
theorem Hf (xs:List (List Int))(i:Nat)(hi:i<xs.length):(xs.take (i+1)).flatten=(xs.take i).flatten++xs[i]:=by
 rw[List.take_succ_eq_append_getElem hi,List.flatten_append]
 simp
theorem Mo (xs:List (List Int))(i:Nat):(xs.take i).flatten.length≤xs.flatten.length:=by
 have:xs.flatten=(xs.take i).flatten++(xs.drop i).flatten:=by rw[← List.flatten_append,List.take_append_drop]
 rw[this,List.length_append];omega
theorem OW (xs:List (List Int))(h:xs.length≤1048576)(hf:xs.flatten.length≤1048576):ia xs=some xs.flatten:=by
 unfold ia
 have k1:ah (fe xs (xs.length:Int)) ((((xs.take 0).flatten.length:Nat):Int),((0:Nat):Int))=some (xs.flatten.length:Int):=by
  refine ay xs.length (fun i=>((((xs.take i).flatten.length:Nat):Int),(i:Int))) ?_ ?_
  ·intro i hi
   have e:=Hf xs i hi
   have l1:=Mo xs (i+1)
   have e':=congrArg List.length e
   rw[List.length_append]at e'
   unfold fe
   simp only
   rw[ifP,aq hi]
   simp only[obnd]
   rw[wr (x:=(((xs.take i).flatten.length:Nat):Int)+((xs[i].length:Nat):Int)),ifN,wr (x:=(i:Int)+1)]
   congr 3
   omega
  unfold fe
  simp only
  rw[ifN,List.take_length]
 simp only[List.take_zero,List.flatten_nil,List.length_nil,Int.natCast_zero]at k1
 rw[k1]
 simp only[obnd]
 rw[SF _ hf]
 simp only
 have k2:∃ q,ah (ff xs (xs.length:Int)) (0,0,List.replicate xs.flatten.length 0)=some q∧(q.1≤q.2.length∧q.2.length≤xs.flatten.length∧q.2.take q.1=xs.flatten):=by
  refine br xs.length (fun i st=>st.1=(xs.take i).flatten.length∧st.2.1=(i:Int)∧st.1≤st.2.2.length∧st.2.2.length≤xs.flatten.length∧st.2.2.take st.1=(xs.take i).flatten) _ ⟨by simp,rfl,by simp,by simp,by simp⟩ ?_ ?_
  ·rintro i ⟨n,j,L⟩ hi ⟨hn,hj,hl,hz,ht⟩
   simp only at hn hj hl hz ht
   subst hj
   have e:=Hf xs i hi
   have l1:=Mo xs (i+1)
   have e':=congrArg List.length e
   rw[List.length_append]at e'
   unfold ff
   simp only
   rw[ifP,aq hi,wr (x:=(i:Int)+1)]
   simp only[obnd]
   left
   by_cases h1:n=L.length
   ·rw[if_pos h1,chP,chP]
    refine⟨_,rfl,by omega,rfl,by simp;omega,by simp only[List.length_append];omega,?_⟩
    rw[h1,List.take_length]at ht
    rw[List.take_of_length_le (by simp;omega),ht,e]
   rw[if_neg h1,chP]
   by_cases h2:xs[i].length=0
   ·rw[if_pos h2]
    have h3:=List.length_eq_zero_iff.1 h2
    refine⟨_,rfl,by omega,rfl,hl,hz,?_⟩
    rw[e,h3,List.append_nil];exact ht
   rw[if_neg h2,chP,chP]
   refine⟨_,rfl,by omega,rfl,by simp;omega,by simp only[List.length_append,List.length_take];omega,?_⟩
   rw[ht,e,List.take_of_length_le (by rw[List.length_append];omega)]
  rintro⟨n,j,L⟩ ⟨hn,hj,hl,hz,ht⟩
  simp only at hn hj hl hz ht
  subst hj
  unfold ff
  simp only
  rw[ifN]
  rw[List.take_length]at ht
  exact⟨_,rfl,hl,hz,ht⟩
 obtain⟨q,e,hl,hz,hq⟩:=k2
 have hq':=congrArg List.length hq
 rw[List.length_take]at hq'
 rw[e]
 simp only
 rw[aA hl,chP,hq]
def cG (set:Int)(i:Nat):Bool:=decide ((wrap .i64 (((BitVec.ofInt (IntKind.bits .i64) (Int.fdiv set (2^(min i 64))) &&& BitVec.ofInt (IntKind.bits .i64) 1).toNat:Nat):Int))=1)
def sel (p:Nat→Bool)(l:List Int)(n:Nat):List Int:=((List.range n).filter p).map (fun j=>l.getD j 0)
theorem FV {p:Nat→Bool}{l:List Int}{n:Nat}(h:p n=true):sel p l (n+1)=sel p l n++[l.getD n 0]:=by
 unfold sel
 rw[List.range_succ,List.filter_append,List.map_append]
 simp[h]
theorem Kb {p:Nat→Bool}{l:List Int}{n:Nat}(h:p n=false):sel p l (n+1)=sel p l n:=by
 unfold sel
 rw[List.range_succ,List.filter_append,List.map_append]
 simp[h]
theorem vu (p:Nat→Bool)(l:List Int)(n:Nat):(sel p l n).length≤n:=by
 unfold sel
 rw[List.length_map]
 have:=List.length_filter_le p (List.range n)
 simpa using this
theorem Mp {p:Nat→Bool}{l:List Int}{n:Nat}{x:Int}(h:x∈sel p l n):∃ i,i<n∧p i=true∧x=l.getD i 0:=by
 unfold sel at h
 simp only[List.mem_map,List.mem_filter,List.mem_range]at h
 obtain⟨i,⟨h1,h2⟩,rfl⟩:=h
 exact⟨i,h1,h2,rfl⟩
theorem Kc {p:Nat→Bool}{l:List Int}{x:Int}(h:x∈sel p l l.length):x∈l:=by
 obtain⟨i,hi,_,rfl⟩:=Mp h
 rw[List.getD_eq_getElem?_getD,List.getElem?_eq_getElem hi]
 exact List.getElem_mem hi
theorem FW {p:Nat→Bool}{l:List Int}(h:Asc l):∀ n,n≤l.length→Asc (sel p l n)
 | 0,_=>List.Pairwise.nil
 | n+1,hn=>by
  have ih:=FW (p:=p) h n (by omega)
  cases hp:p n
  ·rw[Kb hp];exact ih
  rw[FV hp]
  refine wK ih ?_
  intro y hy
  obtain⟨i,hi,_,rfl⟩:=Mp hy
  rw[List.getD_eq_getElem?_getD,List.getElem?_eq_getElem (by omega),List.getD_eq_getElem?_getD,List.getElem?_eq_getElem (by omega)]
  exact List.pairwise_iff_getElem.1 h i n (by omega) (by omega) hi
theorem Ek (l:List Int)(n:Int)(h:l.length≤1000):ky l n=some (sel (cG n) l l.length):=by
 unfold ky
 have key:ah (jS n l (l.length:Int)) (((0:Nat):Int),sel (cG n) l 0)=some (sel (cG n) l l.length):=by
  refine ay l.length (fun i=>((i:Int),sel (cG n) l i)) ?_ ?_
  ·intro i hi
   have hs:=vu (cG n) l i
   unfold jS
   simp only
   rw[ifP,bb hi]
   simp only[obnd]
   rw[chP,wr (x:=(i:Int)+1),Int.toNat_natCast]
   cases hb:cG n i
   ·rw[Kb hb]
    unfold cG at hb
    rw[if_neg (of_decide_eq_false hb)];rfl
   rw[FV hb]
   unfold cG at hb
   rw[if_pos (of_decide_eq_true hb),chP,chP];rfl
  unfold jS
  simp only
  rw[ifN]
 rw[show(0:Int)=((0:Nat):Int) from rfl,show([]:List Int)=sel (cG n) l 0 from rfl,key];rfl
theorem wru {n:Nat}(h:n≤1000000):wrap .u64 (n:Int)=n:=by
 show(n:Int) % 18446744073709551616=n
 omega
theorem wL (l:List Int)(n:Int)(h:l.length≤1000):kB l n=some (sel (cG n) l l.length):=by
 unfold kB
 have key:ah (jZ n l (l.length:Int)) (((0:Nat):Int),sel (cG n) l 0)=some (sel (cG n) l l.length):=by
  refine ay l.length (fun i=>((i:Int),sel (cG n) l i)) ?_ ?_
  ·intro i hi
   have hs:=vu (cG n) l i
   unfold jZ
   simp only
   rw[ifP,bb hi,wru (by omega)]
   simp only[obnd]
   rw[chP,wr (x:=(i:Int)+1),Int.toNat_natCast]
   cases hb:cG n i
   ·rw[Kb hb]
    unfold cG at hb
    rw[if_neg (of_decide_eq_false hb)];rfl
   rw[FV hb]
   unfold cG at hb
   rw[if_pos (of_decide_eq_true hb),chP,chP];rfl
  unfold jZ
  simp only
  rw[ifN]
 rw[show(0:Int)=((0:Nat):Int) from rfl,show([]:List Int)=sel (cG n) l 0 from rfl,key];rfl
noncomputable def mrg (a b:List Int):List Int:=(cF (a++b)).getD []
theorem Hg {a b:List Int}(ha:Asc a)(hb:Asc b)(hd:∀ x,x∈a→x∈b→False)(h:a.length+b.length≤12) :
  cF (a++b)=some (mrg a b)∧Asc (mrg a b)∧(∀ x,x∈mrg a b↔x∈a∨x∈b)∧(mrg a b).length=a.length+b.length:=by
 obtain⟨r,e,hp,hs⟩:=Mn (a++b) (by simpa using h)
 have hm:mrg a b=r:=by unfold mrg;rw[e];rfl
 rw[hm]
 refine⟨e,He hs ?_,?_,by rw[hp.length_eq,List.length_append]⟩
 ·refine hp.nodup_iff.2 ?_
  rw[List.nodup_append]
  exact⟨ha.nodup,hb.nodup,fun x hx y hy he=>hd x hx (he ▸ hy)⟩
 intro x
 rw[hp.mem_iff,List.mem_append]
theorem Lw {a b:List Int}(ha:Asc a)(hb:Asc b)(hd:∀ x,x∈a→x∈b→False)(h:a.length+b.length≤12):jv a b=some (mrg a b):=by
 obtain⟨_,m1,m2,_⟩:=Hg ha hb hd h
 unfold jv
 have key:∃ r,ah (jn a b) (0,0,[])=some r∧(Asc r∧∀ x,x∈r↔x∈a∨x∈b):=by
  refine br (a.length+b.length) (fun n st=>∃ i k:Nat,st.1=(i:Int)∧st.2.1=(k:Int)∧i+k=n∧i≤a.length∧k≤b.length∧st.2.2.length=n∧Asc st.2.2∧(∀ x,x∈st.2.2↔x∈a.take i∨x∈b.take k) ∧
   (∀ x,x∈st.2.2→(∀ hi:i<a.length,x<a[i])∧(∀ hk:k<b.length,x<b[k]))) (fun r=>Asc r∧∀ x,x∈r↔x∈a∨x∈b) ?_ ?_ ?_
  ·exact⟨0,0,rfl,rfl,rfl,Nat.zero_le _,Nat.zero_le _,rfl,List.Pairwise.nil,by simp,by simp⟩
  ·rintro n ⟨i',k',out⟩ hn ⟨i,k,h1,h2,h3,h4,h5,h6,h7,h8,h9⟩
   simp only at h1 h2 h6 h7 h8 h9
   subst h1 h2
   left
   have takeA:∀ hi:i<a.length,(∀ hk:k<b.length,a[i]<b[k])→∃ s',(some (Step.next ((i:Int)+1,(k:Int),out++[a[i]])):Option (Step (Int × Int × List Int) (List Int)))=some (.next s')∧∃ i2 k2:Nat,s'.1=(i2:Int)∧s'.2.1=(k2:Int)∧i2+k2=n+1∧i2≤a.length∧k2≤b.length∧s'.2.2.length=n+1∧Asc s'.2.2∧(∀ x,x∈s'.2.2↔x∈a.take i2∨x∈b.take k2) ∧
     (∀ x,x∈s'.2.2→(∀ hi:i2<a.length,x<a[i2])∧(∀ hk:k2<b.length,x<b[k2])):=by
    intro hi hlt
    refine⟨_,rfl,i+1,k,by simp,rfl,by omega,hi,h5,by simp[h6],wK h7 (fun y hy=>(h9 y hy).1 hi),?_,?_⟩
    ·intro x
     rw[List.take_succ_eq_append_getElem hi]
     simp only[List.mem_append,List.mem_singleton,h8]
     constructor
     ·rintro((hx|hx)|hx)
      ·exact .inl (.inl hx)
      ·exact .inr hx
      exact .inl (.inr hx)
     rintro((hx|hx)|hx)
     ·exact .inl (.inl hx)
     ·exact .inr hx
     exact .inl (.inr hx)
    intro x hx
    rcases List.mem_append.1 hx with hx|hx
    ·refine⟨fun hi2=>?_,fun hk=>(h9 x hx).2 hk⟩
     have:=(h9 x hx).1 hi
     have:=List.pairwise_iff_getElem.1 ha i (i+1) hi hi2 (by omega)
     omega
    rw[List.mem_singleton.1 hx]
    exact⟨fun hi2=>List.pairwise_iff_getElem.1 ha i (i+1) hi hi2 (by omega),fun hk=>hlt hk⟩
   have takeB:∀ hk:k<b.length,(∀ hi:i<a.length,b[k]<a[i])→∃ s',(some (Step.next ((i:Int),(k:Int)+1,out++[b[k]])):Option (Step (Int × Int × List Int) (List Int)))=some (.next s')∧∃ i2 k2:Nat,s'.1=(i2:Int)∧s'.2.1=(k2:Int)∧i2+k2=n+1∧i2≤a.length∧k2≤b.length∧s'.2.2.length=n+1∧Asc s'.2.2∧(∀ x,x∈s'.2.2↔x∈a.take i2∨x∈b.take k2) ∧
     (∀ x,x∈s'.2.2→(∀ hi:i2<a.length,x<a[i2])∧(∀ hk:k2<b.length,x<b[k2])):=by
    intro hk hlt
    refine⟨_,rfl,i,k+1,rfl,by simp,by omega,h4,hk,by simp[h6],wK h7 (fun y hy=>(h9 y hy).2 hk),?_,?_⟩
    ·intro x
     rw[List.take_succ_eq_append_getElem hk]
     simp only[List.mem_append,List.mem_singleton,h8]
     constructor
     ·rintro((hx|hx)|hx)
      ·exact .inl hx
      ·exact .inr (.inl hx)
      exact .inr (.inr hx)
     rintro(hx|hx|hx)
     ·exact .inl (.inl hx)
     ·exact .inl (.inr hx)
     exact .inr hx
    intro x hx
    rcases List.mem_append.1 hx with hx|hx
    ·refine⟨fun hi=>(h9 x hx).1 hi,fun hk2=>?_⟩
     have:=(h9 x hx).2 hk
     have:=List.pairwise_iff_getElem.1 hb k (k+1) hk hk2 (by omega)
     omega
    rw[List.mem_singleton.1 hx]
    exact⟨fun hi=>hlt hi,fun hk2=>List.pairwise_iff_getElem.1 hb k (k+1) hk hk2 (by omega)⟩
   unfold jn
   simp only
   have c1:(out.length+1)*8≤140737488355328:=by omega
   have c2:out.length+1≤9223372036854775807:=by omega
   simp only[aA c1,aA c2]
   rw[wr (x:=(i:Int)+1),wr (x:=(k:Int)+1)]
   by_cases hi:i<a.length
   ·rw[ifP]
    by_cases hk:k<b.length
    ·rw[ifN,aq hi,aq hk]
     simp only[obnd]
     by_cases hlt:a[i]<b[k]
     ·rw[if_pos hlt];exact takeA hi (fun _=>hlt)
     rw[if_neg hlt]
     refine takeB hk (fun _=>?_)
     have:a[i]≠b[k]:=fun e=>hd a[i] (List.getElem_mem hi) (e ▸ List.getElem_mem hk)
     omega
    rw[ifP,aq hi]
    simp only[obnd]
    exact takeA hi (fun hk'=>absurd hk' hk)
   have hk:k<b.length:=by omega
   rw[ifN,ifP,ifN,aq hk]
   simp only[obnd]
   exact takeB hk (fun hi'=>absurd hi' hi)
  rintro⟨i',k',out⟩ ⟨i,k,h1,h2,h3,h4,h5,h6,h7,h8,h9⟩
  simp only at h1 h2 h6 h7 h8 h9
  subst h1 h2
  obtain rfl:i=a.length:=by omega
  obtain rfl:k=b.length:=by omega
  unfold jn
  simp only
  rw[ifN,ifN]
  refine⟨_,rfl,h7,?_⟩
  simpa using h8
 obtain⟨r,e,r1,r2⟩:=key
 rw[e]
 simp only[obnd]
 rw[FT r1 m1 (fun x=>by rw[r2,m2])]
end Go.Proofs.Qh
set_option maxRecDepth 100000
namespace Go.Proofs.Qh
open Go
structure XZ (s:GShow) (i:Nat) (t:GTie):Prop where
 low:1≤t.low
 t0:t.to≠0
 watch:∀ b,s.nodes[t.to.toNat]?=some b→b.watch=0
 one:∀ j (hj:j<s.ties.length),j<i→s.ties[j].free=true→s.ties[j].to≠t.to
theorem pn {s:GShow}(h:aD s=true){i:Nat}(hi:i<s.ties.length)(hf:s.ties[i].free=true):XZ s i s.ties[i]:=by
 have hR:=aN h
 have hT:=hR.tie _ (List.getElem_mem hi)
 unfold aD at h
 simp only[Bool.and_eq_true,decide_eq_true_eq]at h
 have hp:=h.1.1.1.2 i hi
 rw[Af hi,Bool.and_eq_true]at hp
 have hF:=hp.2
 unfold qQ at hF
 rw[hf]at hF
 simp only[Bool.not_true,Bool.false_or,Bool.and_eq_true,decide_eq_true_eq]at hF
 obtain⟨⟨⟨h1,h2⟩,h3⟩,h4⟩:=hF
 have a1:=hT.t1
 have a2:=hT.f1
 have b1:s.nodes[s.ties[i].to.toNat]?=some (s.nodes[s.ties[i].to.toNat]'(by have:=hT.t0;omega)):=List.getElem?_eq_getElem _
 have b2:s.nodes[s.ties[i].from_.toNat]?=some (s.nodes[s.ties[i].from_.toNat]'(by have:=hT.f0;omega)):=List.getElem?_eq_getElem _
 rw[b1,b2]at h3
 simp only[decide_eq_true_eq]at h3
 refine⟨h1,h2,?_,?_⟩
 ·intro b hb
  rw[b1]at hb
  cases hb
  exact h3.1
 intro j hj hji hfj he
 rw[Bool.not_eq_true',List.any_eq_false]at h4
 refine h4 s.ties[j] ?_ (by rw[hfj,decide_eq_true he];rfl)
 exact List.mem_take_iff_getElem.2 ⟨j,by omega,rfl⟩
theorem qn (p:Nat→Bool):∀ n,Asc (aU p n)
 | 0=>List.Pairwise.nil
 | n+1=>by
  cases hp:p n
  ·rw[bL hp];exact qn p n
  rw[fj hp]
  refine wK (qn p n) ?_
  intro y hy
  obtain⟨i,hi,_,rfl⟩:=oS.1 hy
  omega
theorem BY (s:GShow)(x:GState):Asc (actL s x):=qn _ _
theorem tk {s:GShow}{x:GState}{k:Int}(h:k∈actL s x):∃ i,∃ hi:i<s.ties.length,k=(i:Int)∧s.ties[i].free=true∧tm x.times s.ties[i].from_≠-1∧tm x.times s.ties[i].to=-1:=by
 obtain⟨i,hi,hp,rfl⟩:=oS.1 h
 unfold ol at hp
 rw[List.getElem?_eq_getElem hi]at hp
 simp only[Option.any_some]at hp
 unfold actT at hp
 simp only[Bool.and_eq_true,decide_eq_true_eq]at hp
 exact⟨i,hi,rfl,hp.1,hp.2.1,hp.2.2⟩
theorem Kd {s:GShow}(h:aD s=true){i j:Nat}(hi:i<s.ties.length)(hj:j<s.ties.length)(hf:s.ties[i].free=true)(hg:s.ties[j].free=true)(he:s.ties[i].to=s.ties[j].to):i=j:=by
 rcases Nat.lt_trichotomy i j with hlt|he'|hlt
 ·exact absurd he ((pn h hj hg).one i hi hlt hf)
 ·exact he'
 exact absurd he.symm ((pn h hi hf).one j hj hlt hg)
theorem vw {s:GShow}(h:aD s=true)(x:GState):(actL s x).length≤6:=by
 have hR:=aN h
 have hn:=hR.nodes
 have hnd:((actL s x).map (fun k=>(au s k).to)).Nodup:=by
  unfold List.Nodup
  rw[List.pairwise_map]
  refine List.Pairwise.imp_of_mem ?_ (BY s x)
  intro a b ha hb hab he
  obtain⟨i,hi,rfl,hf,_,_⟩:=tk ha
  obtain⟨j,hj,rfl,hg,_,_⟩:=tk hb
  rw[dY hi,dY hj]at he
  have:=Kd h hi hj hf hg he
  omega
 have:=uc (r:=[1,2,3,4,5,6]) hnd (fun y hy=>by
  rw[List.mem_map]at hy
  obtain⟨k,hk,rfl⟩:=hy
  obtain⟨i,hi,rfl,hf,_,_⟩:=tk hk
  rw[dY hi]
  have hT:=hR.tie _ (List.getElem_mem hi)
  have h0:=(pn h hi hf).t0
  have h1:=hT.t0
  have h2:=hT.t1
  simp only[List.mem_cons,List.not_mem_nil,or_false]
  omega)
 simpa using this
def om (s:GShow)(x:GState)(k:Int):Bool:=decide ((au s k).high≤x.now - tm x.times (au s k).from_)
def mayT (s:GShow)(x:GState)(k:Int):Bool:=!om s x k&&decide ((au s k).low≤x.now - tm x.times (au s k).from_)
def mq (s:GShow)(x:GState):List Int:=(actL s x).filter (om s x)
def mayL (s:GShow)(x:GState):List Int:=(actL s x).filter (mayT s x)
noncomputable def oo (s:GShow)(x:GState)(n:Nat):List Int:=mrg (mq s x) (sel (cG (n:Int)) (mayL s x) (mayL s x).length)
noncomputable def cH (s:GShow)(x:GState):List (List Int):=if s.horizon<x.now then [] else (List.range (2^(mayL s x).length)).map (oo s x)
theorem El {α:Type}(p q:α→Bool)(h:∀ x,p x=true→q x=false):∀ l:List α,(l.filter p).length+(l.filter q).length≤l.length
 | []=>by simp
 | x::l=>by
  have ih:=El p q h l
  have hx:=h x
  cases hp:p x
  ·cases hq:q x <;> simp[List.filter_cons,hp,hq] <;> omega
  rw[hp]at hx
  have:=hx rfl
  simp[List.filter_cons,hp,this];omega
theorem wM (s:GShow)(x:GState):(mq s x).length+(mayL s x).length≤(actL s x).length:=El _ _ (fun k h=>by unfold mayT;rw[h];rfl) _
theorem Hi (s:GShow)(x:GState):Asc (mq s x):=(BY s x).filter _
theorem QM (s:GShow)(x:GState):Asc (mayL s x):=(BY s x).filter _
theorem Nv (s:GShow)(x:GState)(k:Int)(h1:k∈mq s x)(h2:k∈mayL s x):False:=by
 have a:=(List.mem_filter.1 h1).2
 have b:=(List.mem_filter.1 h2).2
 unfold mayT at b
 rw[a]at b
 simp at b
theorem uE {s:GShow}(h:aD s=true)(x:GState)(n:Nat) :
  cF (mq s x++sel (cG (n:Int)) (mayL s x) (mayL s x).length)=some (oo s x n)∧jv (mq s x) (sel (cG (n:Int)) (mayL s x) (mayL s x).length)=some (oo s x n) ∧
  Asc (oo s x n)∧(∀ k,k∈oo s x n→k∈actL s x)∧(oo s x n).length=(mq s x).length+(sel (cG (n:Int)) (mayL s x) (mayL s x).length).length∧(oo s x n).length≤6:=by
 have h6:=vw h x
 have hmm:=wM s x
 have hsl:=vu (cG (n:Int)) (mayL s x) (mayL s x).length
 have hasc:=FW (p:=cG (n:Int)) (QM s x) (mayL s x).length (Nat.le_refl _)
 have hdis:∀ k,k∈mq s x→k∈sel (cG (n:Int)) (mayL s x) (mayL s x).length→False:=fun k h1 h2=>Nv s x k h1 (Kc h2)
 obtain⟨m1,m2,m3,m4⟩:=Hg (Hi s x) hasc hdis (by omega)
 refine⟨m1,Lw (Hi s x) hasc hdis (by omega),m2,?_,m4,by unfold oo;omega⟩
 intro k hk
 rcases(m3 k).1 hk with h1|h1
 ·exact(List.mem_filter.1 h1).1
 exact(List.mem_filter.1 (Kc h1)).1
theorem po {α:Type}(p:α→Bool){l:List α}{i:Nat}(hi:i<l.length):(l.take (i+1)).filter p=(l.take i).filter p++(if p l[i]=true then [l[i]] else []):=by
 rw[List.take_succ_eq_append_getElem hi,List.filter_append]
 cases hp:p l[i] <;> simp[hp]
theorem eu {α:Type}(f:Nat→α)(n:Nat):(List.range (n+1)).map f=(List.range n).map f++[f n]:=by
 rw[List.range_succ,List.map_append];rfl
theorem qX {m:Nat}(h:m≤7):2^m≤128:=by
 have:∀ m:Nat,m<8→2^m≤128:=by decide
 exact this m (by omega)
theorem pq {m:Nat}(h:m≤7):wrap .i64 (1*2^(min m 64))=((2^m:Nat):Int):=by
 have hb:=qX h
 rw[Nat.min_eq_left (by omega),Int.one_mul]
 have:(2:Int)^m=((2^m:Nat):Int):=by simp
 rw[this]
 generalize 2^m=q at *
 exact wr (by omega) (by omega)
theorem Ke {s:GShow}{x:GState}(hx:aJ s x=true){i:Nat}(hi:i<(actL s x).length) :
  getI s.ties (actL s x)[i]=some (au s (actL s x)[i])∧getI x.times (au s (actL s x)[i]).from_=some (tm x.times (au s (actL s x)[i]).from_) ∧
  wrap .i64 (x.now - tm x.times (au s (actL s x)[i]).from_)=x.now - tm x.times (au s (actL s x)[i]).from_:=by
 have hR:=fk hx
 have hnow:=RD hx
 have hlen:=hR.len
 obtain⟨j,hj,e,hf,_,_⟩:=tk (List.getElem_mem hi)
 rw[e,dY hj]
 have hT:=hR.right.tie _ (List.getElem_mem hj)
 have hb:=hR.all _ hT.f0 hT.f1
 refine⟨aq hj,aP hT.f0 (by have:=hT.f1;omega),wr (by omega) (by omega)⟩
theorem Nw {s:GShow}{x:GState}(hx:aJ s x=true):mJ s x=some (cH s x):=by
 have hR:=fk hx
 have hok:aD s=true:=by unfold aJ at hx;simp only[Bool.and_eq_true]at hx;exact hx.1.1.1.1.1
 have h6:=vw hok x
 have hmm:=wM s x
 unfold mJ cH
 by_cases hh:s.horizon<x.now
 ·rw[if_pos hh,if_pos hh]
 rw[if_neg hh,if_neg hh,OU s x hR]
 simp only[obnd]
 have k1:ah (jU (((actL s x).length:Nat):Int) s.nodes s.ties s.horizon x.now x.times x.values (actL s x)) (((0:Nat):Int),((actL s x).take 0).filter (om s x),((actL s x).take 0).filter (mayT s x))=some (mq s x,mayL s x):=by
  refine ay (actL s x).length (fun i=>((i:Int),((actL s x).take i).filter (om s x),((actL s x).take i).filter (mayT s x))) ?_ ?_
  ·intro i hi
   obtain⟨e1,e2,e3⟩:=Ke hx hi
   have l1:=List.length_filter_le (om s x) ((actL s x).take i)
   have l2:=List.length_filter_le (mayT s x) ((actL s x).take i)
   rw[List.length_take]at l1 l2
   unfold jU
   simp only
   rw[ifP,aq hi]
   simp only[obnd]
   rw[e1]
   simp only
   rw[e2]
   simp only
   rw[e3,chP,chP,chP,chP,wr (x:=(i:Int)+1),po (om s x) hi,po (mayT s x) hi]
   by_cases hm:(au s (actL s x)[i]).high≤x.now - tm x.times (au s (actL s x)[i]).from_
   ·have a1:om s x (actL s x)[i]=true:=decide_eq_true hm
    have a2:mayT s x (actL s x)[i]=false:=by unfold mayT;rw[a1];rfl
    rw[if_pos hm,a1,a2];simp
   have a1:om s x (actL s x)[i]=false:=decide_eq_false hm
   rw[if_neg hm,a1]
   by_cases hl:(au s (actL s x)[i]).low≤x.now - tm x.times (au s (actL s x)[i]).from_
   ·have a2:mayT s x (actL s x)[i]=true:=by unfold mayT;rw[a1,decide_eq_true hl];rfl
    rw[if_pos hl,a2];simp
   have a2:mayT s x (actL s x)[i]=false:=by unfold mayT;rw[a1,decide_eq_false hl];rfl
   rw[if_neg hl,a2];simp
  unfold jU
  simp only
  rw[ifN,List.take_length];rfl
 simp only[List.take_zero,List.filter_nil,Int.natCast_zero]at k1
 rw[k1]
 simp only
 have hpow:=qX (m:=(mayL s x).length) (by omega)
 have k2:ah (jV (mq s x) (mayL s x)) (((0:Nat):Int),(List.range 0).map (oo s x))=some ((List.range (2^(mayL s x).length)).map (oo s x)):=by
  refine ay (2^(mayL s x).length) (fun i=>((i:Int),(List.range i).map (oo s x))) ?_ ?_
  ·intro i hi
   obtain⟨f1,f2,f3,f4,f5,f6⟩:=uE hok x i
   have hsl:=vu (cG (i:Int)) (mayL s x) (mayL s x).length
   unfold jV
   simp only
   rw[chP,pq (by omega),ifP,Ek _ _ (by omega)]
   simp only[obnd]
   rw[OW _ (by simp) (by simp;omega)]
   simp only
   rw[show[mq s x,sel (cG (i:Int)) (mayL s x) (mayL s x).length].flatten=mq s x++sel (cG (i:Int)) (mayL s x) (mayL s x).length by simp,f1]
   simp only
   rw[aA (by rw[f5,List.length_append]),aA (by simp;omega),aA (by simp;omega),wr (x:=(i:Int)+1),eu];rfl
  unfold jV
  simp only
  rw[chP,pq (by omega),ifN]
 simp only[List.range_zero,List.map_nil,Int.natCast_zero]at k2
 rw[k2]
theorem HJ {s:GShow}{x:GState}(hx:aJ s x=true):jY s x=some (mq s x,mayL s x):=by
 have hR:=fk hx
 have hok:aD s=true:=by unfold aJ at hx;simp only[Bool.and_eq_true]at hx;exact hx.1.1.1.1.1
 have h6:=vw hok x
 unfold jY
 rw[JV s x hR]
 simp only[obnd]
 have k1:ah (gA (((actL s x).length:Nat):Int) s.nodes s.ties s.horizon x.now x.times x.values (actL s x)) (((0:Nat):Int),((actL s x).take 0).filter (om s x),((actL s x).take 0).filter (mayT s x))=some (mq s x,mayL s x):=by
  refine ay (actL s x).length (fun i=>((i:Int),((actL s x).take i).filter (om s x),((actL s x).take i).filter (mayT s x))) ?_ ?_
  ·intro i hi
   obtain⟨e1,e2,e3⟩:=Ke hx hi
   have l1:=List.length_filter_le (om s x) ((actL s x).take i)
   have l2:=List.length_filter_le (mayT s x) ((actL s x).take i)
   rw[List.length_take]at l1 l2
   unfold gA
   simp only
   rw[ifP,aq hi]
   simp only[obnd]
   rw[e1]
   simp only
   rw[e2]
   simp only
   rw[e3,chP,chP,chP,chP,wr (x:=(i:Int)+1),po (om s x) hi,po (mayT s x) hi]
   by_cases hm:(au s (actL s x)[i]).high≤x.now - tm x.times (au s (actL s x)[i]).from_
   ·have a1:om s x (actL s x)[i]=true:=decide_eq_true hm
    have a2:mayT s x (actL s x)[i]=false:=by unfold mayT;rw[a1];rfl
    rw[if_pos hm,a1,a2];simp
   have a1:om s x (actL s x)[i]=false:=decide_eq_false hm
   rw[if_neg hm,a1]
   by_cases hl:(au s (actL s x)[i]).low≤x.now - tm x.times (au s (actL s x)[i]).from_
   ·have a2:mayT s x (actL s x)[i]=true:=by unfold mayT;rw[a1,decide_eq_true hl];rfl
    rw[if_pos hl,a2];simp
   have a2:mayT s x (actL s x)[i]=false:=by unfold mayT;rw[a1,decide_eq_false hl];rfl
   rw[if_neg hl,a2];simp
  unfold gA
  simp only
  rw[ifN,List.take_length];rfl
 simp only[List.take_zero,List.filter_nil,Int.natCast_zero]at k1
 rw[k1]
theorem wN {s:GShow}{x:GState}(hok:aD s=true){ties:List Int}(h:ties∈cH s x):x.now≤s.horizon∧ties.length≤6∧(∀ k,k∈ties→k∈actL s x):=by
 unfold cH at h
 by_cases hh:s.horizon<x.now
 ·rw[if_pos hh]at h;simp at h
 rw[if_neg hh,List.mem_map]at h
 obtain⟨n,_,rfl⟩:=h
 obtain⟨f1,f2,f3,f4,f5,f6⟩:=uE hok x n
 exact⟨by omega,f6,f4⟩
theorem OX {s:GShow}{x:GState}(hok:aD s=true):(cH s x).length≤128:=by
 unfold cH
 have h6:=vw hok x
 have hmm:=wM s x
 have hpow:=qX (m:=(mayL s x).length) (by omega)
 split
 ·simp
 simpa using hpow
def bE (f:Int→Int)(v:Int)(ks t:List Int):List Int:=ks.foldl (fun t k=>t.set (f k).toNat v) t
theorem qY (f:Int→Int)(v:Int)(ks:List Int)(k:Int)(t:List Int):bE f v (ks++[k]) t=(bE f v ks t).set (f k).toNat v:=by
 unfold bE;rw[List.foldl_append];rfl
theorem iO (f:Int→Int)(v:Int):∀ (ks t:List Int),(bE f v ks t).length=t.length
 | [],t=>rfl
 | k::ks,t=>by
  show(bE f v ks (t.set (f k).toNat v)).length=_
  rw[iO f v ks,List.length_set]
theorem pt (t:List Int)(j i v:Int)(hj:0≤j)(hj2:j<t.length)(hi:0≤i):tm (t.set j.toNat v) i=if i=j then v else tm t i:=by
 unfold tm
 rw[List.getElem?_set]
 by_cases h:i=j
 ·subst h
  rw[if_pos rfl,ifP,if_pos rfl];rfl
 rw[ifN,if_neg h]
theorem ud (f:Int→Int)(v:Int):∀ (ks t:List Int) (i:Int),0≤i→(∀ k,k∈ks→0≤f k∧f k<t.length)→tm (bE f v ks t) i=if i∈ks.map f then v else tm t i
 | [],t,i,_,_=>by simp[bE]
 | k::ks,t,i,h0,h=>by
  have hk:=h k (by simp)
  show tm (bE f v ks (t.set (f k).toNat v)) i=_
  rw[ud f v ks _ i h0 (fun k' hk'=>by rw[List.length_set];exact h k' (by simp[hk'])),pt _ _ _ _ hk.1 hk.2 h0]
  by_cases h1:i∈ks.map f
  ·rw[if_pos h1,if_pos (by simp only[List.map_cons,List.mem_cons];exact .inr h1)]
  rw[if_neg h1]
  by_cases h2:i=f k
  ·rw[if_pos h2,if_pos (by simp[h2])]
  rw[if_neg h2,if_neg (by simp only[List.map_cons,List.mem_cons];rintro(h3|h3);exact h2 h3;exact h1 h3)]
theorem tn (x:GState)(h1:x.times.length≤1048576)(h2:x.values.length≤1048576):fq x=some x:=by
 unfold fq
 rw[yF _ h1,yF _ h2];rfl
theorem wO (x:GState)(h1:x.times.length≤1048576)(h2:x.values.length≤1048576):iG x=some x:=by
 unfold iG
 rw[chP,chP,chP,chP]
def endX (s:GShow)(x:GState)(ties:List Int):GState:=⟨x.now,bE (fun k=>(au s k).to) x.now ties x.times,x.values⟩
theorem wP {s:GShow}{x:GState}(hx:aJ s x=true){ties:List Int}(ht:∀ k,k∈ties→k∈actL s x){i:Nat}(hi:i<ties.length) :
  getI s.ties ties[i]=some (au s ties[i])∧0≤(au s ties[i]).to∧(au s ties[i]).to<x.times.length:=by
 have hR:=fk hx
 have hlen:=hR.len
 obtain⟨j,hj,e,_,_,_⟩:=tk (ht _ (List.getElem_mem hi))
 rw[e,dY hj]
 have hT:=hR.right.tie _ (List.getElem_mem hj)
 exact⟨aq hj,hT.t0,by have:=hT.t1;omega⟩
theorem QN {s:GShow}{x:GState}(hx:aJ s x=true)(h2:x.values.length≤1048576){ties:List Int}(hl:ties.length≤1000)(ht:∀ k,k∈ties→k∈actL s x):oD s x ties=some (endX s x ties):=by
 have hR:=fk hx
 have hlen:=hR.len
 have hn:=hR.right.nodes
 unfold oD
 rw[tn x (by omega) h2]
 simp only[obnd]
 have key:ah (lN ties (ties.length:Int) s.nodes s.ties s.horizon x.now x.times x.values x.now x.values) (((0:Nat):Int),bE (fun k=>(au s k).to) x.now (ties.take 0) x.times)=some (bE (fun k=>(au s k).to) x.now ties x.times):=by
  refine ay ties.length (fun i=>((i:Int),bE (fun k=>(au s k).to) x.now (ties.take i) x.times)) ?_ ?_
  ·intro i hi
   obtain⟨e1,e2,e3⟩:=wP hx ht hi
   unfold lN
   simp only
   rw[ifP,aq hi]
   simp only[obnd]
   rw[e1]
   simp only
   rw[aP e2 (by rw[iO];exact e3)]
   simp only
   rw[wr (x:=(i:Int)+1),List.take_succ_eq_append_getElem hi,qY];rfl
  unfold lN
  simp only
  rw[ifN,List.take_length]
 rw[List.take_zero]at key
 change obnd (ah _ (((0:Nat):Int),bE (fun k=>(au s k).to) x.now [] x.times)) _=_
 rw[key];rfl
theorem OY {s:GShow}{x:GState}(hx:aJ s x=true)(h2:x.values.length≤1048576){ties:List Int}(hl:ties.length≤1000)(ht:∀ k,k∈ties→k∈actL s x):nR s x ties=some (endX s x ties):=by
 have hR:=fk hx
 have hlen:=hR.len
 have hn:=hR.right.nodes
 unfold nR
 rw[wO x (by omega) h2]
 simp only[obnd]
 have key:ah (kY ties (ties.length:Int) s.nodes s.ties s.horizon x.now x.times x.values x.now x.values) (((0:Nat):Int),bE (fun k=>(au s k).to) x.now (ties.take 0) x.times)=some (bE (fun k=>(au s k).to) x.now ties x.times):=by
  refine ay ties.length (fun i=>((i:Int),bE (fun k=>(au s k).to) x.now (ties.take i) x.times)) ?_ ?_
  ·intro i hi
   obtain⟨e1,e2,e3⟩:=wP hx ht hi
   unfold kY
   simp only
   rw[ifP,aq hi]
   simp only[obnd]
   rw[e1]
   simp only
   rw[aP e2 (by rw[iO];exact e3)]
   simp only
   rw[wr (x:=(i:Int)+1),List.take_succ_eq_append_getElem hi,qY];rfl
  unfold kY
  simp only
  rw[ifN,List.take_length]
 rw[List.take_zero]at key
 change obnd (ah _ (((0:Nat):Int),bE (fun k=>(au s k).to) x.now [] x.times)) _=_
 rw[key];rfl
def RE (x:GState):GState:=⟨x.now+1,x.times,x.values⟩
def Jl (s:GShow)(x:GState):Bool:=decide (0≤x.now∧x.now≤s.horizon)&&aJ s (RE x)
theorem zY {s:GShow}{x:GState}(hx:aJ s x=true){ties:List Int}(ht:∀ k,k∈ties→k∈actL s x){i:Int}(hi:0≤i) :
  tm (endX s x ties).times i=if i∈ties.map (fun k=>(au s k).to) then x.now else tm x.times i:=by
 unfold endX
 refine ud _ _ _ _ _ hi ?_
 intro k hk
 obtain⟨j,hj,rfl⟩:=List.getElem_of_mem hk
 exact(wP hx ht hj).2
theorem Em {s:GShow}{x:GState}(hok:aD s=true){ties:List Int}(ht:∀ k,k∈ties→k∈actL s x){i:Int}(h:i∈ties.map (fun k=>(au s k).to)):i≠0∧∀ b,s.nodes[i.toNat]?=some b→b.watch=0:=by
 rw[List.mem_map]at h
 obtain⟨k,hk,rfl⟩:=h
 obtain⟨j,hj,rfl,hf,_,_⟩:=tk (ht _ hk)
 rw[dY hj]
 have:=pn hok hj hf
 exact⟨this.t0,this.watch⟩
theorem QO {s:GShow}{x:GState}(hx:aJ s x=true)(hh:x.now≤s.horizon){ties:List Int}(ht:∀ k,k∈ties→k∈actL s x):Jl s (endX s x ties)=true:=by
 have hnow:=RD hx
 have hx0:=hx
 have hl:(endX s x ties).times.length=x.times.length:=iO _ _ _ _
 unfold aJ at hx
 simp only[Bool.and_eq_true,decide_eq_true_eq]at hx
 obtain⟨⟨⟨⟨⟨h1,h2⟩,h3⟩,h4⟩,h5⟩,h6⟩:=hx
 unfold Jl aJ
 simp only[Bool.and_eq_true,decide_eq_true_eq]
 refine⟨⟨h2.1,hh⟩,⟨⟨⟨⟨h1,?_⟩,?_⟩,h4⟩,?_⟩,?_⟩
 ·show 0≤x.now+1∧x.now+1≤s.horizon+1
  omega
 ·exact hl.trans h3
 ·intro i hi
  have hi':i<x.times.length:=by rw[← hl];exact hi
  have h5i:=h5 i hi'
  unfold ql at h5i ⊢
  have e:=zY hx0 ht (i:=(i:Int)) (by omega)
  show(if i=0 then decide (tm (endX s x ties).times 0=0) else decide (-1≤tm (endX s x ties).times i∧tm (endX s x ties).times i≤x.now+1 - 1))=true
  by_cases hi0:i=0
  ·rw[if_pos hi0]at h5i ⊢
   subst hi0
   rw[show((0:Nat):Int)=0 from rfl]at e
   rw[e,if_neg (fun h=>(Em h1 ht h).1 rfl)]
   exact h5i
  rw[if_neg hi0]at h5i ⊢
  rw[decide_eq_true_eq]at h5i ⊢
  rw[e]
  split
  ·omega
  omega
 intro i hi
 have h6i:=h6 i hi
 unfold nT at h6i ⊢
 show(decide (tm x.values i≠0) == (decide (0≤ba s.nodes (fun n=>decide (n.watch=(i:Int)+1)))&&decide (tm (endX s x ties).times (ba s.nodes (fun n=>decide (n.watch=(i:Int)+1)))≠-1)))=true
 by_cases hw:0≤ba s.nodes (fun n=>decide (n.watch=(i:Int)+1))
 ·obtain⟨j,hj,e,hq,_⟩:=lB hw
  rw[zY hx0 ht hw,if_neg ?_]
  ·exact h6i
  intro hm
  have:=(Em h1 ht hm).2 s.nodes[j] (by rw[e,Int.toNat_natCast,List.getElem?_eq_getElem hj])
  rw[decide_eq_true_eq]at hq
  omega
 rw[decide_eq_false hw]at h6i ⊢
 simpa using h6i
end Go.Proofs.Qh
set_option maxRecDepth 100000
namespace Go.Proofs.Qh
open Go
def litV (v:List Int)(x:Int):Int:=if x<0 then 0 - tm v (pr x - 1) else tm v (pr x - 1)
def dq (l v:List Int):Int:=l.foldl (fun o x=>if litV v x<o then litV v x else o) 1
theorem Kf {x:Int}(h1:-3≤x)(h2:x≤3):pr x≤3:=by
 unfold pr
 split
 ·rw[wr];omega
 omega
theorem bG {v:List Int}(h:dy v=true):v.length=3∧∀ x,x∈v→-1≤x∧x≤1:=by
 unfold dy at h
 simp only[Bool.and_eq_true,decide_eq_true_eq,List.all_eq_true]at h
 exact h
theorem Mq {l v:List Int}(hl:ce l=true)(hv:dy v=true){x:Int}(hx:x∈l):getI v (wrap .i64 (pr x - 1))=some (tm v (pr x - 1))∧wrap .i64 (0 - tm v (pr x - 1))=0 - tm v (pr x - 1):=by
 obtain⟨h1,h2,h3⟩:=yD hl hx
 have h4:=Kf h2 h3
 obtain⟨v1,v2⟩:=bG hv
 have hb:=v2 _ (WM (ts:=v) (i:=pr x - 1) (by omega) (by omega))
 rw[wr (x:=pr x - 1)]
 exact⟨aP (by omega) (by omega),wr (by omega) (by omega)⟩
theorem qo {l v:List Int}(hl:ce l=true)(hv:dy v=true)(hc:Cnt l.length):eJ l v=some (dq l v):=by
 have v1:=(bG hv).1
 unfold eJ
 rw[qt l hc,hl]
 simp only[obnd,if_true]
 rw[xf v (by unfold Cnt;omega),hv]
 simp only[if_true]
 have key:ah (gi v l (l.length:Int)) ((l.take 0).foldl (fun o x=>if litV v x<o then litV v x else o) 1,((0:Nat):Int))=some (dq l v):=by
  refine ay l.length (fun i=>((l.take i).foldl (fun o x=>if litV v x<o then litV v x else o) 1,(i:Int))) ?_ ?_
  ·intro i hi
   unfold Cnt at hc
   obtain⟨e1,e2⟩:=Mq hl hv (List.getElem_mem hi)
   unfold gi
   simp only
   rw[ifP,aq hi,wr (x:=(i:Int)+1)]
   simp only[obnd]
   have hh:oC l[i] v=some (litV v l[i]):=by
    unfold oC litV
    rw[ry]
    simp only[obnd]
    rw[e1]
    simp only
    rw[e2]
    split <;> rfl
   rw[hh]
   simp only
   rw[List.take_succ_eq_append_getElem hi,List.foldl_append];rfl
  unfold gi
  simp only
  rw[ifN,List.take_length];rfl
 rw[List.take_zero]at key
 change obnd (ah _ (1,((0:Nat):Int))) _=_
 rw[show(1:Int)=([]:List Int).foldl (fun o x=>if litV v x<o then litV v x else o) 1 from rfl,key];rfl
theorem uF {l v:List Int}(hl:ce l=true)(hv:dy v=true)(hc:Cnt l.length):bY l v=some (dq l v):=by
 unfold bY
 have key:ah (iW v l (l.length:Int)) ((l.take 0).foldl (fun o x=>if litV v x<o then litV v x else o) 1,((0:Nat):Int))=some (dq l v):=by
  refine ay l.length (fun i=>((l.take i).foldl (fun o x=>if litV v x<o then litV v x else o) 1,(i:Int))) ?_ ?_
  ·intro i hi
   unfold Cnt at hc
   obtain⟨e1,e2⟩:=Mq hl hv (List.getElem_mem hi)
   unfold iW
   simp only
   rw[ifP,aq hi,wr (x:=(i:Int)+1)]
   simp only[obnd]
   rw[qr]
   simp only
   rw[e1]
   simp only
   rw[e2,List.take_succ_eq_append_getElem hi,List.foldl_append]
   unfold litV
   simp only[List.foldl_cons,List.foldl_nil]
   by_cases hx:l[i]<0
   ·simp only[if_pos hx];rfl
   simp only[if_neg hx];rfl
  unfold iW
  simp only
  rw[ifN,List.take_length];rfl
 rw[List.take_zero]at key
 change obnd (ah _ (1,((0:Nat):Int))) _=_
 rw[show(1:Int)=([]:List Int).foldl (fun o x=>if litV v x<o then litV v x else o) 1 from rfl,key];rfl
def dC (s:GShow)(k:Int):Int:=ba s.ties (fun t=>t.free&&decide (t.to=k))
def ca (s:GShow)(i:Nat):List Int:=((s.nodes[i]?).map (fun n=>n.label)).getD []
def chAt (s:GShow)(i:Nat):Bool:=decide (0<i)&&decide (dC s (i:Int)<0)
def opAt (s:GShow)(x:GState)(i:Nat):Bool:=decide (tm x.times (i:Int)=-1)&&decide (dq (ca s i) x.values=1)
def enAt (s:GShow)(x:GState)(i:Nat):Bool:=chAt s i&&opAt s x i
def enL (s:GShow)(x:GState):List Int:=aU (enAt s x) s.nodes.length
theorem xg (p:Nat→Bool)(q:Int→Bool):∀ n,(aU p n).filter q=aU (fun i=>p i&&q (i:Int)) n
 | 0=>rfl
 | n+1=>by
  have ih:=xg p q n
  cases hp:p n
  ·rw[bL hp,bL (by simp[hp]),ih]
  rw[fj hp,List.filter_append,ih]
  cases hq:q (n:Int)
  ·rw[bL (by simp[hp,hq])];simp[hq]
  rw[fj (by simp[hp,hq])];simp[hq]
theorem yy {p q:Nat→Bool}:∀ {n:Nat},(∀ i,i<n→p i=q i)→aU p n=aU q n
 | 0,_=>rfl
 | n+1,h=>by
  have ih:=yy (n:=n) (fun i hi=>h i (by omega))
  have hn:=h n (by omega)
  cases hp:p n
  ·rw[bL hp,bL (by rw[← hn];exact hp),ih]
  rw[fj hp,fj (by rw[← hn];exact hp),ih]
theorem oT (s:GShow)(k:Int)(hs:bh s):fO s k=some (dC s k):=by
 unfold fO dC
 rw[xj s.ties _ (fun t=>t.free&&decide (t.to=k)) hs.ties]
 ·rfl
 intro t _
 unfold mj
 cases t.free <;> rfl
theorem Hj (s:GShow)(hs:bh s)(hR:qk s):lw s=some (aU (chAt s) s.nodes.length):=by
 have h1:=hR.node1
 have h7:=hR.nodes
 unfold lw
 have key:ah (kR s.nodes s.ties s.horizon) (((0:Nat):Int)+1,aU (chAt s) (0+1))=some (aU (chAt s) s.nodes.length):=by
  refine ay (s.nodes.length - 1) (fun i=>((i:Int)+1,aU (chAt s) (i+1))) ?_ ?_
  ·intro i hi
   have hl:=gC (chAt s) (i+1)
   unfold kR
   simp only
   rw[ifP,show(GShow.mk s.nodes s.ties s.horizon)=s from rfl,oT s _ hs,wr (x:=(i:Int)+1+1),chP,chP]
   simp only[obnd]
   have e:chAt s (i+1)=decide (dC s ((i:Int)+1)<0):=by
    unfold chAt
    rw[decide_eq_true (show 0<i+1 by omega),Bool.true_and];rfl
   by_cases hf:dC s ((i:Int)+1)<0
   ·rw[if_pos hf,fj (n:=i+1) (by rw[e];exact decide_eq_true hf)];rfl
   rw[if_neg hf,bL (n:=i+1) (by rw[e];exact decide_eq_false hf)];rfl
  unfold kR
  simp only
  rw[ifN,show s.nodes.length - 1+1=s.nodes.length by omega]
 have e0:aU (chAt s) (0+1)=[]:=by rw[bL (by rfl)];rfl
 rw[e0]at key
 change obnd (ah _ (((0:Nat):Int)+1,[])) _=_
 rw[key];rfl
theorem rv {s:GShow}(hok:aD s=true){i:Nat}(hi:i<s.nodes.length):ce s.nodes[i].label=true∧0≤s.nodes[i].watch∧s.nodes[i].watch≤3:=by
 unfold aD at hok
 simp only[Bool.and_eq_true]at hok
 have h:=BN hok.1.1.1.1 _ (List.getElem_mem hi)
 have h2:=h
 unfold mR at h2
 simp only[Bool.and_eq_true,decide_eq_true_eq]at h2
 exact⟨yE h,h2.2⟩
theorem oE {s:GShow}{i:Nat}(hi:i<s.nodes.length):ca s i=s.nodes[i].label:=by
 unfold ca
 rw[List.getElem?_eq_getElem hi];rfl
structure MomR (s:GShow) (x:GState):Prop where
 ok:aD s=true
 right:qk s
 now:0≤x.now∧x.now≤s.horizon
 len:x.times.length=s.nodes.length
 val:dy x.values=true
 nxt:aJ s (RE x)=true
theorem OZ {s:GShow}{x:GState}(h:Jl s x=true):MomR s x:=by
 unfold Jl at h
 simp only[Bool.and_eq_true,decide_eq_true_eq]at h
 obtain⟨h1,h2⟩:=h
 have h3:=h2
 unfold aJ at h2
 simp only[Bool.and_eq_true,decide_eq_true_eq]at h2
 obtain⟨⟨⟨⟨⟨a1,a2⟩,a3⟩,a4⟩,a5⟩,a6⟩:=h2
 exact⟨a1,aN a1,h1,a3,a4,h3⟩
theorem Nx {s:GShow}{x:GState}(hs:bh s)(h:MomR s x):mK s x=some (enL s x):=by
 have h7:=h.right.nodes
 have hln:=h.len
 have hpl:=gC (chAt s) s.nodes.length
 unfold mK
 rw[Hj s hs h.right]
 simp only[obnd]
 rw[FS _ _ (fun k=>!(decide (tm x.times k=-1)&&decide (dq (ca s k.toNat) x.values=1))) (by unfold Cnt;omega)]
 ·simp only[Bool.not_not]
  rw[xg]
  unfold enL
  rw[yy (q:=enAt s x)]
  intro i hi
  unfold enAt opAt
  rw[Int.toNat_natCast]
 intro k hk
 obtain⟨i,hi,_,rfl⟩:=oS.1 hk
 unfold ml
 rw[iK (by omega)]
 simp only[obnd]
 by_cases ht:tm x.times (i:Int)=-1
 ·rw[if_pos ht]
  unfold dj
  rw[aq hi]
  simp only[obnd]
  rw[qo (rv h.ok hi).1 h.val (hs.node _ (List.getElem_mem hi)).2,decide_eq_true ht,Int.toNat_natCast,oE hi]
  simp
 rw[if_neg ht,decide_eq_false ht];rfl
theorem HK {s:GShow}{x:GState}(hs:bh s)(h:MomR s x):ka s x=some (enL s x):=by
 have h7:=h.right.nodes
 have hln:=h.len
 unfold ka
 have key:ah (gB s.nodes (s.nodes.length:Int) s.ties s.horizon x.now x.times x.values) (((0:Nat):Int),aU (enAt s x) 0)=some (enL s x):=by
  refine ay s.nodes.length (fun i=>((i:Int),aU (enAt s x) i)) ?_ ?_
  ·intro i hi
   have hpl:=gC (enAt s x) i
   unfold gB
   simp only
   rw[ifP,aq hi,show(GShow.mk s.nodes s.ties s.horizon)=s from rfl,iQ s _ hs.ties,iK (by omega),wr (x:=(i:Int)+1),chP,chP]
   simp only[obnd]
   rw[uF (rv h.ok hi).1 h.val (hs.node _ (List.getElem_mem hi)).2]
   simp only
   have e:enAt s x i=(decide (0<i)&&decide (dC s (i:Int)<0)&&(decide (tm x.times (i:Int)=-1)&&decide (dq s.nodes[i].label x.values=1))):=by
    unfold enAt chAt opAt
    rw[oE hi]
   change (if (0:Int)<(i:Int) then (if dC s (i:Int)<0 then _ else _) else _)=_
   by_cases h0:0<i
   ·rw[ifP]
    by_cases hf:dC s (i:Int)<0
    ·rw[if_pos hf]
     by_cases ht:tm x.times (i:Int)=-1
     ·rw[if_pos ht]
      by_cases hs1:dq s.nodes[i].label x.values=1
      ·rw[if_pos hs1,fj (by rw[e,decide_eq_true h0,decide_eq_true hf,decide_eq_true ht,decide_eq_true hs1];rfl)];rfl
      rw[if_neg hs1,bL (by rw[e,decide_eq_false hs1];simp)];rfl
     rw[if_neg ht,bL (by rw[e,decide_eq_false ht];simp)];rfl
    rw[if_neg hf,bL (by rw[e,decide_eq_false hf];simp)];rfl
   rw[ifN,bL (by rw[e,decide_eq_false h0];rfl)];rfl
  unfold gB
  simp only
  rw[ifN];rfl
 rw[pl]at key
 change obnd (ah _ (((0:Nat):Int),[])) _=_
 rw[key];rfl
def pD (s:GShow)(x:GState)(j:Nat):List Int:=sel (cG ((2^(enL s x).length - 1 - j:Nat):Int)) (enL s x) (enL s x).length
def decL (s:GShow)(x:GState):List (List Int):=(List.range (2^(enL s x).length)).map (pD s x)
theorem zZ {s:GShow}(hR:qk s)(x:GState):(enL s x).length≤7:=by
 have:=gC (enAt s x) s.nodes.length
 have:=hR.nodes
 unfold enL;omega
theorem Kg {s:GShow}{x:GState}(hs:bh s)(h:MomR s x):kS s x=some (decL s x):=by
 have h7:=zZ h.right x
 have hpow:=qX h7
 have hpos:0<2^(enL s x).length:=Nat.pow_pos (by omega)
 unfold kS
 rw[Nx hs h]
 simp only[obnd]
 rw[chP,pq h7]
 unfold decL
 have hd:∀ j,pD s x j=sel (cG ((2^(enL s x).length - 1 - j:Nat):Int)) (enL s x) (enL s x).length:=fun _=>rfl
 generalize 2^(enL s x).length=q at *
 rw[wr]
 have key:ah (ib (enL s x)) ((q:Int) - 1 - ((0:Nat):Int),(List.range 0).map (pD s x))=some ((List.range q).map (pD s x)):=by
  refine ay q (fun i=>((q:Int) - 1 - (i:Int),(List.range i).map (pD s x))) ?_ ?_
  ·intro i hi
   unfold ib
   simp only
   rw[ifP,Ek _ _ (by omega),wr]
   simp only[obnd]
   rw[aA (by simp;omega),aA (by simp;omega),eu,hd i,show(((q - 1 - i:Nat)):Int)=(q:Int) - 1 - (i:Int) by omega,show(q:Int) - 1 - (i:Int) - 1=(q:Int) - 1 - ((i+1:Nat):Int) by omega]
  unfold ib
  simp only
  rw[ifN]
 simp only[List.range_zero,List.map_nil,Int.natCast_zero,Int.sub_zero]at key
 rw[key]
theorem pE {s:GShow}{x:GState}{k:Int}(h:k∈enL s x):∃ i,i<s.nodes.length∧k=(i:Int)∧0<i∧tm x.times (i:Int)=-1:=by
 obtain⟨i,hi,hp,rfl⟩:=oS.1 h
 unfold enAt chAt opAt at hp
 simp only[Bool.and_eq_true,decide_eq_true_eq]at hp
 exact⟨i,hi,rfl,hp.1.1,hp.2.1⟩
theorem rx {s:GShow}{x:GState}(hR:qk s){nodes:List Int}(h:nodes∈decL s x):Asc nodes∧nodes.length≤7∧∀ k,k∈nodes→k∈enL s x:=by
 unfold decL at h
 rw[List.mem_map]at h
 obtain⟨j,_,rfl⟩:=h
 have h7:=zZ hR x
 have:=vu (cG ((2^(enL s x).length - 1 - j:Nat):Int)) (enL s x) (enL s x).length
 exact⟨FW (qn _ _) _ (Nat.le_refl _),by unfold pD;omega,fun k hk=>Kc hk⟩
theorem QP {s:GShow}(hR:qk s)(x:GState):(decL s x).length≤128:=by
 unfold decL
 simpa using qX (zZ hR x)
def vx (s:GShow)(k:Int):Int:=((s.nodes[k.toNat]?).map (fun n=>n.watch)).getD 0
def aY (s:GShow)(p:Int):Int:=ba s.nodes (fun n=>decide (n.watch=p))
def aV (s:GShow)(nodes:List Int):List Int:=[1,2,3].filter (fun p=>decide (aY s p∈nodes))
def decX (x:GState)(nodes:List Int):GState:=⟨x.now,bE (fun k=>k) x.now nodes x.times,x.values⟩
theorem En {s:GShow}(hok:aD s=true){i j:Nat}(hi:i<s.nodes.length)(hj:j<s.nodes.length)(h:s.nodes[i].watch=s.nodes[j].watch)(h0:s.nodes[i].watch≠0):i=j:=by
 have key:∀ {i j:Nat} (hi:i<s.nodes.length) (hj:j<s.nodes.length),s.nodes[i].watch=s.nodes[j].watch→s.nodes[j].watch≠0→¬ i<j:=by
  intro i j hi hj he hn hlt
  unfold aD ll at hok
  simp only[Bool.and_eq_true,decide_eq_true_eq]at hok
  have hp:=hok.1.1.1.1.2 j hj
  rw[tw hj,Bool.and_eq_true]at hp
  have hE:=hp.2
  unfold sE at hE
  rw[List.all_eq_true]at hE
  have:=hE s.nodes[i] (List.mem_take_iff_getElem.2 ⟨i,by omega,rfl⟩)
  simp only[Bool.and_eq_true,Bool.or_eq_true,Bool.not_eq_true',decide_eq_false_iff_not,decide_eq_true_eq]at this
  rcases this.2 with h1|h1
  ·exact hn h1
  exact h1 he
 rcases Nat.lt_trichotomy i j with hlt|he|hlt
 ·exact absurd hlt (key hi hj h (by rw[← h];exact h0))
 ·exact he
 exact absurd hlt (key hj hi h.symm h0)
theorem Ny {s:GShow}(hok:aD s=true){i:Nat}(hi:i<s.nodes.length)(h0:s.nodes[i].watch≠0):aY s s.nodes[i].watch=(i:Int):=by
 unfold aY
 have h1:0≤ba s.nodes (fun n=>decide (n.watch=s.nodes[i].watch)):=by
  have:=oM (xs:=s.nodes) (q:=fun n=>decide (n.watch=s.nodes[i].watch))
  have h2:s.nodes.any (fun n=>decide (n.watch=s.nodes[i].watch))=true:=List.any_eq_true.2 ⟨_,List.getElem_mem hi,by simp⟩
  rw[h2]at this
  exact of_decide_eq_true this
 obtain⟨j,hj,e,hq,_⟩:=lB h1
 rw[e,En hok hj hi (of_decide_eq_true hq) (by rw[of_decide_eq_true hq];exact h0)]
theorem oU {s:GShow}{i:Nat}(hi:i<s.nodes.length):vx s (i:Int)=s.nodes[i].watch:=by
 unfold vx
 rw[Int.toNat_natCast,List.getElem?_eq_getElem hi];rfl
def wl (s:GShow)(nodes:List Int):List Int:=(nodes.map (vx s)).filter (fun p=>!decide (p=0))
theorem yz (s:GShow)(nodes:List Int):Asc (aV s nodes):=by
 have:Asc [1,2,3]:=by unfold Asc;decide
 exact this.filter _
theorem QQ {s:GShow}{x:GState}(hok:aD s=true){nodes:List Int}(ha:Asc nodes)(hn:∀ k,k∈nodes→k∈enL s x):(wl s nodes).Nodup∧∀ p,p∈wl s nodes↔p∈aV s nodes:=by
 constructor
 ·unfold wl
  rw[List.filter_map]
  unfold List.Nodup
  rw[List.pairwise_map]
  refine List.Pairwise.imp_of_mem ?_ (ha.filter _)
  intro a b h1 h2 hab he
  rw[List.mem_filter]at h1 h2
  obtain⟨i,hi,rfl,_,_⟩:=pE (hn _ h1.1)
  obtain⟨j,hj,rfl,_,_⟩:=pE (hn _ h2.1)
  have h3:=h1.2
  simp only[Function.comp,Bool.not_eq_true',decide_eq_false_iff_not]at h3
  rw[oU hi,oU hj]at he
  rw[oU hi]at h3
  have:=En hok hi hj he h3
  omega
 intro p
 unfold wl aV
 rw[List.mem_filter,List.mem_filter,List.mem_map]
 simp only[Bool.not_eq_true',decide_eq_false_iff_not,decide_eq_true_eq]
 constructor
 ·rintro⟨⟨k,hk,rfl⟩,h0⟩
  obtain⟨i,hi,rfl,_,_⟩:=pE (hn _ hk)
  rw[oU hi]at h0 ⊢
  have hw:=(rv hok hi).2
  refine⟨?_,?_⟩
  ·simp only[List.mem_cons,List.not_mem_nil,or_false];omega
  rw[Ny hok hi h0];exact hk
 rintro⟨h3,hw⟩
 obtain⟨i,hi,e,_,_⟩:=pE (hn _ hw)
 have h0:0≤aY s p:=by omega
 obtain⟨j,hj,e2,hq,_⟩:=lB h0
 have hwp:=of_decide_eq_true hq
 unfold aY at hw
 rw[e2]at hw
 refine⟨⟨(j:Int),hw,by rw[oU hj];exact hwp⟩,?_⟩
 simp only[List.mem_cons,List.not_mem_nil,or_false]at h3
 omega
theorem Hk (s:GShow)(nodes:List Int):(aV s nodes).length≤3:=by
 have:=List.length_filter_le (fun p=>decide (aY s p∈nodes)) [1,2,3]
 simpa [aV] using this
theorem jp {s:GShow}{nodes:List Int}{p:Int}(h:p∈aV s nodes):1≤p∧p≤3∧aY s p∈nodes:=by
 unfold aV at h
 rw[List.mem_filter]at h
 simp only[List.mem_cons,List.not_mem_nil,or_false,decide_eq_true_eq]at h
 exact⟨by omega,by omega,h.2⟩
theorem Nz {s:GShow}{x:GState}(h:MomR s x){nodes:List Int}(ha:Asc nodes)(hl7:nodes.length≤7)(hn:∀ k,k∈nodes→k∈enL s x):mL s x nodes=some (decX x nodes,aV s nodes):=by
 have h7:=h.right.nodes
 have hln:=h.len
 have hv:=(bG h.val).1
 unfold mL
 rw[tn x (by omega) (by omega)]
 simp only[obnd]
 have key:ah (jW nodes (nodes.length:Int) s.nodes s.ties s.horizon x.now x.times x.values x.now x.values) (((0:Nat):Int),wl s (nodes.take 0),bE (fun k=>k) x.now (nodes.take 0) x.times)=some (wl s nodes,bE (fun k=>k) x.now nodes x.times):=by
  refine ay nodes.length (fun i=>((i:Int),wl s (nodes.take i),bE (fun k=>k) x.now (nodes.take i) x.times)) ?_ ?_
  ·intro i hi
   obtain⟨j,hj,e,_,_⟩:=pE (hn _ (List.getElem_mem hi))
   have hwl:(wl s (nodes.take i)).length≤7:=by
    have:=List.length_filter_le (fun p=>!decide (p=0)) ((nodes.take i).map (vx s))
    rw[List.length_map,List.length_take]at this
    unfold wl;omega
   have hw1:wl s (nodes.take (i+1))=wl s (nodes.take i)++(if s.nodes[j].watch=0 then [] else [s.nodes[j].watch]):=by
    unfold wl
    rw[List.take_succ_eq_append_getElem hi,List.map_append,List.filter_append,e]
    simp only[List.map_cons,List.map_nil]
    rw[oU hj]
    by_cases h0:s.nodes[j].watch=0 <;> simp[h0]
   unfold jW
   simp only
   rw[ifP,aq hi,e]
   simp only[obnd]
   rw[aP (ts:=bE (fun k=>k) x.now (nodes.take i) x.times) (by omega) (by rw[iO];omega),aq hj,wr (x:=(i:Int)+1)]
   simp only
   rw[chP,chP,hw1,List.take_succ_eq_append_getElem hi,qY,e]
   by_cases h0:s.nodes[j].watch=0
   ·rw[if_pos h0,if_pos h0,List.append_nil];rfl
   rw[if_neg h0,if_neg h0];rfl
  unfold jW
  simp only
  rw[ifN,List.take_length]
 rw[List.take_zero]at key
 change obnd (ah _ (((0:Nat):Int),wl s [],bE (fun k=>k) x.now [] x.times)) _=_
 rw[key]
 simp only[obnd]
 have hwl:(wl s nodes).length≤7:=by
  have:=List.length_filter_le (fun p=>!decide (p=0)) (nodes.map (vx s))
  rw[List.length_map]at this
  unfold wl;omega
 obtain⟨r,e,hp,hs⟩:=Mn (wl s nodes) (by omega)
 obtain⟨w1,w2⟩:=QQ h.ok ha hn
 have er:r=aV s nodes:=FT (He hs (hp.nodup_iff.2 w1)) (yz s nodes) (fun y=>by rw[hp.mem_iff,w2])
 rw[e]
 simp only
 rw[aA hp.length_eq,er];rfl
theorem Kh {s:GShow}{x:GState}(hs:bh s)(h:MomR s x){nodes:List Int}(hl7:nodes.length≤7)(hn:∀ k,k∈nodes→k∈enL s x):kZ s x nodes=some (decX x nodes,aV s nodes):=by
 have h7:=h.right.nodes
 have hln:=h.len
 have hv:=(bG h.val).1
 unfold kZ
 rw[wO x (by omega) (by omega)]
 simp only[obnd]
 have key:ah (ij nodes (nodes.length:Int) s.nodes s.ties s.horizon x.now x.times x.values x.now x.values) (((0:Nat):Int),bE (fun k=>k) x.now (nodes.take 0) x.times)=some (bE (fun k=>k) x.now nodes x.times):=by
  refine ay nodes.length (fun i=>((i:Int),bE (fun k=>k) x.now (nodes.take i) x.times)) ?_ ?_
  ·intro i hi
   obtain⟨j,hj,e,_,_⟩:=pE (hn _ (List.getElem_mem hi))
   unfold ij
   simp only
   rw[ifP,aq hi,e]
   simp only[obnd]
   rw[aP (ts:=bE (fun k=>k) x.now (nodes.take i) x.times) (by omega) (by rw[iO];omega),wr (x:=(i:Int)+1),List.take_succ_eq_append_getElem hi,qY,e];rfl
  unfold ij
  simp only
  rw[ifN,List.take_length]
 rw[List.take_zero]at key
 change obnd (ah _ (((0:Nat):Int),bE (fun k=>k) x.now [] x.times)) _=_
 rw[key]
 simp only[obnd]
 have key2:ah (ik nodes s.nodes s.ties s.horizon x.now (bE (fun k=>k) x.now nodes x.times) x.values) (((0:Nat):Int)+1,([1,2,3].take 0).filter (fun p=>decide (aY s p∈nodes)))=some (aV s nodes):=by
  refine ay 3 (fun i=>((i:Int)+1,([1,2,3].take i).filter (fun p=>decide (aY s p∈nodes)))) ?_ ?_
  ·intro i hi
   have hl:=List.length_filter_le (fun p=>decide (aY s p∈nodes)) ([1,2,3].take i)
   rw[List.length_take]at hl
   have e3:([1,2,3]:List Int)[i]'(by simpa using hi)=(i:Int)+1:=by
    have:i=0∨i=1∨i=2:=by omega
    rcases this with rfl|rfl|rfl <;> rfl
   unfold ik
   simp only
   rw[ifP,show(GShow.mk s.nodes s.ties s.horizon)=s from rfl,fm s _ hs.nodes]
   simp only[obnd]
   rw[oF _ _ (by unfold Cnt;omega),wr (x:=(i:Int)+1+1),chP,chP,po _ (by simpa using hi),e3]
   simp only
   change (if decide (aY s ((i:Int)+1)∈nodes)=true then _ else _)=_
   cases decide (aY s ((i:Int)+1)∈nodes)
   ·rw[if_neg (by simp),if_neg (by simp),List.append_nil];rfl
   rw[if_pos rfl,if_pos rfl];rfl
  unfold ik
  simp only
  rw[ifN];rfl
 simp only[List.take_zero,List.filter_nil,Int.natCast_zero,Int.zero_add]at key2
 rw[key2];rfl
def setV (ps vs v:List Int)(n:Nat):List Int:=(List.range n).foldl (fun v i=>v.set (ps.getD i 0 - 1).toNat (vs.getD i 0)) v
theorem pQ (ps vs v:List Int)(n:Nat):setV ps vs v (n+1)=(setV ps vs v n).set (ps.getD n 0 - 1).toNat (vs.getD n 0):=by
 unfold setV
 rw[List.range_succ,List.foldl_append];rfl
theorem qN (ps vs v:List Int):∀ n,(setV ps vs v n).length=v.length
 | 0=>rfl
 | n+1=>by rw[pQ,List.length_set,qN ps vs v n]
def obsX (x:GState)(ps vs:List Int):GState:=⟨x.now+1,x.times,setV ps vs x.values ps.length⟩
theorem BJ (x:GState)(ps vs:List Int)(hn:0≤x.now∧x.now≤1000)(h1:x.times.length≤1048576)(h2:x.values.length=3)(hp:∀ p,p∈ps→1≤p∧p≤3)(hl:vs.length=ps.length)(hl2:ps.length≤1000) :
  lO x ps vs=some (obsX x ps vs)∧lc x ps vs=some (obsX x ps vs):=by
 have pb:∀ i,i<ps.length→1≤ps.getD i 0∧ps.getD i 0≤3:=by
  intro i hi
  rw[List.getD_eq_getElem?_getD,List.getElem?_eq_getElem hi]
  exact hp _ (List.getElem_mem hi)
 constructor
 ·unfold lO
  rw[tn x h1 (by omega)]
  simp only[obnd]
  have key:ah (jg vs ps (ps.length:Int) x.now x.times) (((0:Nat):Int),setV ps vs x.values 0)=some (setV ps vs x.values ps.length):=by
   refine ay ps.length (fun i=>((i:Int),setV ps vs x.values i)) ?_ ?_
   ·intro i hi
    have hb:=pb i hi
    unfold jg
    simp only
    rw[ifP,bb hi,bb (by omega),wr (x:=(i:Int)+1)]
    simp only[obnd]
    rw[wr (x:=ps.getD i 0 - 1),aP (ts:=setV ps vs x.values i) (by omega) (by rw[qN];omega)]
    simp only
    rw[pQ];rfl
   unfold jg
   simp only
   rw[ifN]
  change obnd (ah _ (((0:Nat):Int),setV ps vs x.values 0)) _=_
  rw[key]
  simp only[obnd]
  rw[wr];rfl
 unfold lc
 rw[wO x h1 (by omega)]
 simp only[obnd]
 have key:ah (il vs ps (ps.length:Int) x.now x.times) (((0:Nat):Int),setV ps vs x.values 0)=some (setV ps vs x.values ps.length):=by
  refine ay ps.length (fun i=>((i:Int),setV ps vs x.values i)) ?_ ?_
  ·intro i hi
   have hb:=pb i hi
   unfold il
   simp only
   rw[ifP,bb hi,bb (by omega),wr (x:=(i:Int)+1)]
   simp only[obnd]
   rw[wr (x:=ps.getD i 0 - 1),aP (ts:=setV ps vs x.values i) (by omega) (by rw[qN];omega)]
   simp only
   rw[pQ];rfl
  unfold il
  simp only
  rw[ifN]
 change obnd (ah _ (((0:Nat):Int),setV ps vs x.values 0)) _=_
 rw[key]
 simp only[obnd]
 rw[wr];rfl
theorem Aa {ps vs v:List Int}(hv:v.length=3)(hp:∀ p,p∈ps→1≤p∧p≤3):∀ n,n≤ps.length→∀ k:Int,0≤k→(∀ i,i<n→ps.getD i 0 - 1≠k)→tm (setV ps vs v n) k=tm v k
 | 0,_,k,_,_=>rfl
 | n+1,hn,k,hk,h=>by
  rw[pQ]
  have hb:=hp (ps.getD n 0) (by rw[List.getD_eq_getElem?_getD,List.getElem?_eq_getElem (show n<ps.length by omega)];exact List.getElem_mem _)
  rw[pt _ _ _ _ (by omega) (by rw[qN];omega) hk,if_neg (fun e=>h n (by omega) e.symm)]
  exact Aa hv hp n (by omega) k hk (fun i hi=>h i (by omega))
theorem Mr {ps vs v:List Int}(hv:v.length=3)(hp:∀ p,p∈ps→1≤p∧p≤3)(hl:vs.length=ps.length):∀ n,n≤ps.length→∀ k:Int,0≤k→(∃ i,i<n∧ps.getD i 0 - 1=k)→tm (setV ps vs v n) k∈vs
 | 0,_,k,_,h=>by obtain⟨i,hi,_⟩:=h;omega
 | n+1,hn,k,hk,h=>by
  rw[pQ]
  have hb:=hp (ps.getD n 0) (by rw[List.getD_eq_getElem?_getD,List.getElem?_eq_getElem (show n<ps.length by omega)];exact List.getElem_mem _)
  rw[pt _ _ _ _ (by omega) (by rw[qN];omega) hk]
  by_cases e:k=ps.getD n 0 - 1
  ·rw[if_pos e,List.getD_eq_getElem?_getD,List.getElem?_eq_getElem (show n<vs.length by omega)]
   exact List.getElem_mem _
  rw[if_neg e]
  obtain⟨i,hi,he⟩:=h
  exact Mr hv hp hl n (by omega) k hk ⟨i,by rcases Nat.lt_or_ge i n with h1|h1;exact h1;exact absurd (by rw[← he,show i=n by omega]) e,he⟩
theorem Ki {ps vs v:List Int}{y:Int}:∀ n,y∈setV ps vs v n→y∈v∨∃ i,i<n∧y=vs.getD i 0
 | 0,h=>.inl h
 | n+1,h=>by
  rw[pQ]at h
  rcases List.mem_or_eq_of_mem_set h with h|h
  ·rcases Ki n h with h|⟨i,hi,h⟩
   ·exact .inl h
   exact .inr ⟨i,by omega,h⟩
  exact .inr ⟨n,by omega,h⟩
theorem Eo {s:GShow}{x:GState}(h:MomR s x){nodes:List Int}(hn:∀ k,k∈nodes→k∈enL s x){vs:List Int}(hl:vs.length=(aV s nodes).length)(hv:∀ v,v∈vs→v=1∨v=-1) :
  aJ s (obsX (decX x nodes) (aV s nodes) vs)=true:=by
 have h7:=h.right.nodes
 have hln:=h.len
 obtain⟨v1,v2⟩:=bG h.val
 have hnx:=h.nxt
 have hp:∀ p,p∈aV s nodes→1≤p∧p≤3:=fun p hp=>⟨(jp hp).1,(jp hp).2.1⟩
 have htm:∀ {i:Int},0≤i→tm (bE (fun k=>k) x.now nodes x.times) i=if i∈nodes then x.now else tm x.times i:=by
  intro i hi
  rw[ud _ _ _ _ _ hi (fun k hk=>by obtain⟨j,hj,e,_,_⟩:=pE (hn k hk);omega),List.map_id']
 unfold aJ at hnx
 simp only[Bool.and_eq_true,decide_eq_true_eq]at hnx
 obtain⟨⟨⟨⟨⟨a1,a2⟩,a3⟩,a4⟩,a5⟩,a6⟩:=hnx
 have hT:(obsX (decX x nodes) (aV s nodes) vs).times=bE (fun k=>k) x.now nodes x.times:=rfl
 have hN:(obsX (decX x nodes) (aV s nodes) vs).now=x.now+1:=rfl
 have hV:(obsX (decX x nodes) (aV s nodes) vs).values=setV (aV s nodes) vs x.values (aV s nodes).length:=rfl
 unfold aJ
 simp only[Bool.and_eq_true,decide_eq_true_eq]
 refine⟨⟨⟨⟨⟨h.ok,?_⟩,?_⟩,?_⟩,?_⟩,?_⟩
 ·rw[hN];have:=h.now;omega
 ·rw[hT,iO];exact hln
 ·rw[hV]
  unfold dy
  rw[Bool.and_eq_true,decide_eq_true_eq,List.all_eq_true,qN]
  refine⟨v1,?_⟩
  intro y hy
  rcases Ki _ hy with h1|⟨i,hi,rfl⟩
  ·exact decide_eq_true (v2 y h1)
  have:=hv (vs.getD i 0) (by rw[List.getD_eq_getElem?_getD,List.getElem?_eq_getElem (show i<vs.length by omega)];exact List.getElem_mem _)
  exact decide_eq_true (by omega)
 ·intro i hi
  rw[hT,iO]at hi
  have h5:=a5 i hi
  unfold ql at h5 ⊢
  rw[hT,hN]
  change (if i=0 then decide (tm x.times 0=0) else decide (-1≤tm x.times i∧tm x.times i≤x.now+1 - 1))=true at h5
  by_cases h0:i=0
  ·rw[if_pos h0]at h5 ⊢
   rw[htm (Int.le_refl 0),if_neg (fun hm=>by obtain⟨j,_,e,hj,_⟩:=pE (hn _ hm);omega)]
   exact h5
  rw[if_neg h0]at h5 ⊢
  rw[decide_eq_true_eq]at h5 ⊢
  rw[htm (by omega)]
  have:=h.now
  split <;> omega
 intro i hi
 have h6:=a6 i hi
 unfold nT at h6 ⊢
 rw[hT,hV]
 change (decide (tm x.values i≠0) == (decide (0≤aY s ((i:Int)+1))&&decide (tm x.times (aY s ((i:Int)+1))≠-1)))=true at h6
 change (decide (tm (setV (aV s nodes) vs x.values (aV s nodes).length) i≠0) == (decide (0≤aY s ((i:Int)+1))&&decide (tm (bE (fun k=>k) x.now nodes x.times) (aY s ((i:Int)+1))≠-1)))=true
 by_cases hw:0≤aY s ((i:Int)+1)
 ·rw[decide_eq_true hw,Bool.true_and,htm hw]
  rw[decide_eq_true hw,Bool.true_and]at h6
  by_cases hm:aY s ((i:Int)+1)∈nodes
  ·rw[if_pos hm,decide_eq_true (show x.now≠-1 by have:=h.now;omega)]
   have hpm:(i:Int)+1∈aV s nodes:=by
    unfold aV
    rw[List.mem_filter]
    unfold eF at hi
    refine⟨?_,decide_eq_true hm⟩
    simp only[List.mem_cons,List.not_mem_nil,or_false]
    omega
   obtain⟨j,hj,e⟩:=List.getElem_of_mem hpm
   have hin:=Mr v1 hp hl _ (Nat.le_refl _) (i:Int) (by omega) ⟨j,hj,by rw[List.getD_eq_getElem?_getD,List.getElem?_eq_getElem hj,e,Option.getD_some];omega⟩
   have:=hv _ hin
   rw[decide_eq_true (show tm (setV (aV s nodes) vs x.values (aV s nodes).length) i≠0 by omega)];rfl
  rw[if_neg hm,Aa v1 hp _ (Nat.le_refl _) _ (by omega)]
  ·exact h6
  intro j hj he
  refine hm ?_
  have:=(jp (s:=s) (nodes:=nodes) (p:=(aV s nodes).getD j 0) (by rw[List.getD_eq_getElem?_getD,List.getElem?_eq_getElem hj];exact List.getElem_mem _)).2.2
  rwa [show(aV s nodes).getD j 0=(i:Int)+1 by omega]at this
 rw[decide_eq_false hw]at h6 ⊢
 rw[Aa v1 hp _ (Nat.le_refl _) _ (by omega)]
 ·simpa using h6
 intro j hj he
 have:=(jp (s:=s) (nodes:=nodes) (p:=(aV s nodes).getD j 0) (by rw[List.getD_eq_getElem?_getD,List.getElem?_eq_getElem hj];exact List.getElem_mem _)).2.2
 rw[show(aV s nodes).getD j 0=(i:Int)+1 by omega]at this
 obtain⟨q,hq,e,_,_⟩:=pE (hn _ this)
 omega
end Go.Proofs.Qh
set_option maxRecDepth 100000
namespace Go.Proofs.Qh
open Go
theorem QR {l:List Int}(h:ce l=true){x:Int}(hx:x∈l):x≠0∧-3≤x∧x≤3∧1≤pr x∧pr x≤3:=by
 obtain⟨h1,h2,h3⟩:=yD h hx
 have h4:=Kf h2 h3
 refine⟨?_,h2,h3,by omega,h4⟩
 rintro rfl
 have:pr 0=0:=rfl
 omega
theorem SG {l:List Int}(h:ce l=true)(hc:l.length≤1048576):l.length≤3:=by
 have hasc:Asc (l.map pr):=by
  unfold Asc
  rw[List.pairwise_iff_getElem]
  intro i j hi hj hij
  rw[List.length_map]at hi hj
  simp only[List.getElem_map]
  have hl:=h
  unfold ce at hl
  rw[decide_eq_true_eq]at hl
  have step:∀ n (hn:n+1<l.length),pr (l[n]'(by omega))<pr l[n+1]:=by
   intro n hn
   have:=hl (n+1) hn
   unfold labP at this
   rw[decide_eq_true_eq]at this
   have:=this.2.2.2 (by omega)
   rw[List.getD_eq_getElem?_getD,List.getD_eq_getElem?_getD,show n+1 - 1=n by omega,List.getElem?_eq_getElem (by omega),List.getElem?_eq_getElem hn]at this
   exact this
  have mono:∀ k,∀ hk:i+k+1<l.length,pr (l[i]'(by omega))<pr l[i+k+1]:=by
   intro k
   induction k with
   | zero=>intro hk;exact step i hk
   | succ k ih=>
    intro hk
    have h1:=ih (by omega)
    have h2:=step (i+k+1) hk
    show pr l[i]<pr l[i+k+1+1]
    omega
  have:=mono (j - i - 1) (by omega)
  have e:i+(j - i - 1)+1=j:=by omega
  simp only[e]at this
  exact this
 have:=uc (r:=[1,2,3]) hasc.nodup (fun y hy=>by
  rw[List.mem_map]at hy
  obtain⟨x,hx,rfl⟩:=hy
  obtain⟨_,_,_,h1,h2⟩:=QR h hx
  simp only[List.mem_cons,List.not_mem_nil,or_false]
  omega)
 simpa using this
theorem Lx {s:GShow}{x:GState}(h:aJ s x=true):aD s=true∧x.values.length=3∧x.times.length≤7:=by
 have hR:=fk h
 have hl:=hR.len
 have h7:=hR.right.nodes
 unfold aJ at h
 simp only[Bool.and_eq_true]at h
 exact⟨h.1.1.1.1.1,(bG h.1.1.2).1,by omega⟩
theorem BZ {s:GShow}(h:aD s=true):aJ s (kD s)=true:=by
 have hR:=aN h
 have h1:=hR.node1
 have hh:=hR.hor
 have hl:(kD s).times.length=s.nodes.length:=vt _
 have htm:∀ i:Nat,i<s.nodes.length→tm (kD s).times (i:Int)=if i=0 then 0 else -1:=by
  have key:∀ n i:Nat,i<n→(stL n)[i]?=some (if i=0 then 0 else -1):=by
   intro n
   induction n with
   | zero=>intro i hi;omega
   | succ n ih=>
    intro i hi
    cases n with
    | zero=>
     obtain rfl:i=0:=by omega
     rfl
    | succ n=>
     rw[JU]
     by_cases hlt:i<n+1
     ·rw[List.getElem?_append_left (by rw[vt];exact hlt)]
      exact ih i hlt
     obtain rfl:i=n+1:=by omega
     rw[List.getElem?_append_right (by rw[vt];exact Nat.le_refl _),vt,Nat.sub_self,ifN];rfl
  intro i hi
  unfold tm
  rw[Int.toNat_natCast,show(kD s).times=stL s.nodes.length from rfl,key _ i hi];rfl
 unfold aJ
 simp only[Bool.and_eq_true,decide_eq_true_eq]
 refine⟨⟨⟨⟨⟨h,?_⟩,hl⟩,?_⟩,?_⟩,?_⟩
 ·show 0≤(0:Int)∧(0:Int)≤s.horizon+1;omega
 ·show dy [0,0,0]=true;decide
 ·intro i hi
  unfold ql
  have e:=htm i (by omega)
  by_cases h0:i=0
  ·subst h0
   rw[if_pos rfl]
   rw[if_pos rfl]at e
   exact decide_eq_true e
  rw[if_neg h0]
  rw[if_neg h0]at e
  rw[e]
  exact decide_eq_true ⟨by omega,by show(-1:Int)≤0 - 1;omega⟩
 intro i hi
 unfold nT
 have ev:tm (kD s).values (i:Int)=0:=by
  unfold eF at hi
  have:i=0∨i=1∨i=2:=by omega
  rcases this with rfl|rfl|rfl <;> rfl
 rw[ev]
 by_cases hw:0≤ba s.nodes (fun n=>decide (n.watch=(i:Int)+1))
 ·obtain⟨j,hj,e,hq,_⟩:=lB hw
  have hj0:j≠0:=by
   rintro rfl
   have hf:=h
   unfold aD ll at hf
   simp only[Bool.and_eq_true]at hf
   have hf:=hf.1.1.1.1.1.2
   unfold qP at hf
   rw[List.getElem?_eq_getElem hj]at hf
   simp only[Option.any_some,Bool.and_eq_true,decide_eq_true_eq]at hf
   have:=of_decide_eq_true hq
   omega
  rw[e,htm j hj,if_neg hj0]
  simp
 rw[decide_eq_false hw];simp
end Go.Proofs.Qh
set_option maxRecDepth 100000
namespace Go.Proofs.Qh
open Go
end Go.Proofs.Qh
set_option maxRecDepth 100000
namespace Go.Proofs.Qh
open Go
theorem Pa {l v:List Int}(hv:dy v=true)(hl:ce l=true):-1≤dq l v∧dq l v≤1:=by
 obtain⟨h3,hb⟩:=bG hv
 have tmb:∀ k:Int,-1≤tm v k∧tm v k≤1:=by
  intro k
  unfold tm
  cases hk:v[k.toNat]? with
  | none=>simp
  | some y=>exact hb y (List.mem_of_getElem? hk)
 unfold dq
 have key:∀ (l:List Int) (o:Int),-1≤o∧o≤1→-1≤l.foldl (fun o x=>if litV v x<o then litV v x else o) o∧l.foldl (fun o x=>if litV v x<o then litV v x else o) o≤1:=by
  intro l
  induction l with
  | nil=>intro o h;exact h
  | cons x l ih=>
   intro o h
   simp only[List.foldl_cons]
   refine ih _ ?_
   have:=tmb (pr x - 1)
   unfold litV
   split <;> split <;> omega
 exact key l 1 (by omega)
structure StR (s:GShow) (x:GState):Prop where
 ok:aD s=true
 right:qk s
 len:x.times.length=s.nodes.length
 val:dy x.values=true
 now:0≤x.now∧x.now≤s.horizon+1
 all:∀ i:Int,0≤i→i<s.nodes.length→-1≤tm x.times i∧tm x.times i≤11
theorem cA {s:GShow}{x:GState}(h:aJ s x=true):StR s x:=by
 have hR:=fk h
 have h2:=h
 unfold aJ at h2
 simp only[Bool.and_eq_true,decide_eq_true_eq]at h2
 obtain⟨⟨⟨⟨⟨a1,a2⟩,a3⟩,a4⟩,a5⟩,a6⟩:=h2
 exact⟨a1,hR.right,a3,a4,a2,hR.all⟩
def late (s:GShow)(x:GState)(t:GTie):Bool:=
 if tm x.times t.from_=-1 then (if t.free=true then false else (if tm x.times t.to=-1 then false else decide (dq (ca s t.from_.toNat) x.values=1)&&decide (tm x.times t.to - x.now<t.low)))
 else if tm x.times t.to=-1 then (if t.free=true then false else decide (dq (ca s t.to.toNat) x.values=1)&&decide (t.high<x.now - tm x.times t.from_))
 else decide (tm x.times t.to - tm x.times t.from_<t.low) || decide (t.high<tm x.times t.to - tm x.times t.from_)
def qp (s:GShow)(x:GState)(i:Nat):Bool:=!(decide (tm x.times (i:Int)=-1) && !decide (dq (ca s i) x.values=-1))
def oV (s:GShow)(x:GState):Bool:=(List.range s.nodes.length).all (qp s x)
def kE (s:GShow)(x:GState):Bool:=s.ties.any (late s x) || (decide (s.horizon<x.now) && !oV s x)
theorem ue {n:Nat}{p:Nat→Bool}:(List.range n).all p=decide (∀ i,i<n→p i=true):=by
 rw[Bool.eq_iff_iff,List.all_eq_true,decide_eq_true_eq]
 exact⟨fun h i hi=>h i (List.mem_range.2 hi),fun h i hi=>h i (List.mem_range.1 hi)⟩
theorem lX {s:GShow}{x:GState}(hs:bh s)(h:StR s x){k:Int}(h0:0≤k)(h1:k<s.nodes.length):∃ b,getI s.nodes k=some b∧eJ b.label x.values=some (dq (ca s k.toNat) x.values)∧bY b.label x.values=some (dq (ca s k.toNat) x.values):=by
 have hi:k.toNat<s.nodes.length:=by omega
 refine⟨s.nodes[k.toNat],?_,?_,?_⟩
 ·have:=aq hi
  rwa [show((k.toNat:Nat):Int)=k by omega]at this
 ·rw[qo (rv h.ok hi).1 h.val (hs.node _ (List.getElem_mem hi)).2,oE hi]
 rw[uF (rv h.ok hi).1 h.val (hs.node _ (List.getElem_mem hi)).2,oE hi]
theorem WN {s:GShow}{x:GState}(h:StR s x){i:Nat}(hi:i<s.nodes.length):-1≤dq (ca s i) x.values∧dq (ca s i) x.values≤1:=by
 rw[oE hi]
 exact Pa h.val (rv h.ok hi).1
theorem qq {s:GShow}{x:GState}(hs:bh s)(h:StR s x){k:Int}(h0:0≤k)(h1:k<s.nodes.length):dj s x k=some (dq (ca s k.toNat) x.values):=by
 obtain⟨b,e1,e2,_⟩:=lX hs h h0 h1
 unfold dj
 rw[e1]
 simp only[obnd]
 rw[e2]
theorem FX {s:GShow}{x:GState}(hs:bh s)(h:StR s x){t:GTie}(ht:t∈s.ties):jh s x t=some (late s x t):=by
 have hT:=h.right.tie t ht
 have hln:=h.len
 have hn:=h.now
 have hh:=h.right.hor
 have b1:=h.all _ hT.f0 hT.f1
 have b2:=h.all _ hT.t0 hT.t1
 unfold jh late
 rw[aP hT.f0 (by have:=hT.f1;omega),aP hT.t0 (by have:=hT.t1;omega)]
 simp only[obnd]
 by_cases hf:tm x.times t.from_=-1
 ·rw[if_pos hf,if_pos hf]
  cases t.free
  ·simp only[Bool.false_eq_true,if_false]
   by_cases h2:tm x.times t.to=-1
   ·rw[if_pos h2,if_pos h2]
   rw[if_neg h2,if_neg h2,qq hs h hT.f0 hT.f1,wr]
   simp only
   by_cases h3:dq (ca s t.from_.toNat) x.values=1
   ·rw[if_pos h3,decide_eq_true h3];rfl
   rw[if_neg h3,decide_eq_false h3];rfl
  simp only[if_true]
 rw[if_neg hf,if_neg hf]
 by_cases h2:tm x.times t.to=-1
 ·rw[if_pos h2,if_pos h2]
  cases t.free
  ·simp only[Bool.false_eq_true,if_false]
   rw[qq hs h hT.t0 hT.t1,wr]
   simp only
   by_cases h3:dq (ca s t.to.toNat) x.values=1
   ·rw[if_pos h3,decide_eq_true h3];rfl
   rw[if_neg h3,decide_eq_false h3];rfl
  simp only[if_true]
 rw[if_neg h2,if_neg h2,wr]
 by_cases h3:tm x.times t.to - tm x.times t.from_<t.low
 ·rw[if_pos h3,decide_eq_true h3];rfl
 rw[if_neg h3,decide_eq_false h3];rfl
theorem Ep {s:GShow}{x:GState}(hs:bh s)(h:StR s x):kz s x=some (oV s x):=by
 have hln:=h.len
 have h7:=h.right.nodes
 unfold kz oV
 have key:=bB (body:=gT x.times (x.times.length:Int) s.nodes s.ties s.horizon x.now x.values) x.times.length (fun i=>(i:Int)) (qp s x) (rT:=.inl ()) (rF:=.inr false) ?_ ?_ ?_
 ·rw[show((0:Nat):Int)=0 from rfl]at key
  rw[key,ue,← hln]
  simp only[obnd]
  split
  ·rename_i q he
   split at he
   ·rename_i hp;rw[decide_eq_true hp]
   cases he
  rename_i q he
  split at he
  ·cases he
  rename_i hp;cases he;rw[decide_eq_false hp]
 ·intro i hi hp
  unfold gT
  try simp only
  rw[ifP,iK hi]
  simp only[obnd]
  unfold qp at hp
  by_cases ht:tm x.times (i:Int)=-1
  ·rw[if_pos ht,show(GShow.mk s.nodes s.ties s.horizon)=s from rfl,show(GState.mk x.now x.times x.values)=x from rfl,qq hs h (by omega) (by omega),Int.toNat_natCast]
   simp only
   rw[decide_eq_true ht]at hp
   rw[if_pos (by simpa using hp),wr];rfl
  rw[if_neg ht,wr];rfl
 ·intro i hi hp
  unfold gT
  try simp only
  rw[ifP,iK hi]
  simp only[obnd]
  unfold qp at hp
  simp only[Bool.not_eq_false',Bool.and_eq_true,decide_eq_true_eq,Bool.not_eq_true',decide_eq_false_iff_not]at hp
  rw[if_pos hp.1,show(GShow.mk s.nodes s.ties s.horizon)=s from rfl,show(GState.mk x.now x.times x.values)=x from rfl,qq hs h (by omega) (by omega),Int.toNat_natCast]
  simp only
  rw[if_neg hp.2]
 unfold gT
 try simp only
 rw[ifN]
theorem Ly {s:GShow}{x:GState}(hs:bh s)(h:StR s x):lQ s x=some (kE s x):=by
 unfold lQ kE
 rw[tv s.ties _ (late s x) hs.ties]
 ·simp only[obnd]
  cases s.ties.any (late s x)
  ·rw[if_neg (by simp)]
   by_cases hh:s.horizon<x.now
   ·rw[if_pos hh,Ep hs h,decide_eq_true hh];rfl
   rw[if_neg hh,decide_eq_false hh];rfl
  rw[if_pos rfl];rfl
 intro t ht
 unfold lP
 rw[FX hs h ht];rfl
theorem Er {s:GShow}{x:GState}(hs:bh s)(h:StR s x){t:GTie}(ht:t∈s.ties):mM s x t=some (late s x t):=by
 have hT:=h.right.tie t ht
 have hln:=h.len
 have hn:=h.now
 have hh:=h.right.hor
 have b1:=h.all _ hT.f0 hT.f1
 have b2:=h.all _ hT.t0 hT.t1
 obtain⟨n1,e1,_,e2⟩:=lX hs h hT.f0 hT.f1
 obtain⟨n2,e3,_,e4⟩:=lX hs h hT.t0 hT.t1
 unfold mM late
 rw[aP hT.f0 (by have:=hT.f1;omega),aP hT.t0 (by have:=hT.t1;omega)]
 simp only[obnd]
 by_cases hf:tm x.times t.from_=-1
 ·rw[if_pos hf,if_pos hf]
  cases t.free
  ·simp only[Bool.false_eq_true,if_false]
   by_cases h2:tm x.times t.to=-1
   ·rw[if_pos h2,if_pos h2]
   rw[if_neg h2,if_neg h2,e1,wr]
   simp only
   rw[e2]
   simp only
   by_cases h3:dq (ca s t.from_.toNat) x.values=1
   ·rw[if_pos h3,decide_eq_true h3];rfl
   rw[if_neg h3,decide_eq_false h3];rfl
  simp only[if_true]
 rw[if_neg hf,if_neg hf]
 by_cases h2:tm x.times t.to=-1
 ·rw[if_pos h2,if_pos h2]
  cases t.free
  ·simp only[Bool.false_eq_true,if_false]
   rw[e3,wr]
   simp only
   rw[e4]
   simp only
   by_cases h3:dq (ca s t.to.toNat) x.values=1
   ·rw[if_pos h3,decide_eq_true h3];rfl
   rw[if_neg h3,decide_eq_false h3];rfl
  simp only[if_true]
 rw[if_neg h2,if_neg h2,wr,bg]
 simp only
 congr 1
 by_cases h3:tm x.times t.to - tm x.times t.from_<t.low
 ·rw[decide_eq_true h3,decide_eq_false (by omega)];rfl
 rw[decide_eq_false h3]
 by_cases h4:t.high<tm x.times t.to - tm x.times t.from_
 ·rw[decide_eq_true h4,decide_eq_false (by omega)];rfl
 rw[decide_eq_false h4,decide_eq_true (by omega)];rfl
theorem Ab {s:GShow}{x:GState}(h:StR s x){i:Nat}(hi:i<s.nodes.length):qp s x i=!(decide (tm x.times (i:Int)=-1)&&decide (0≤dq (ca s i) x.values)):=by
 have:=WN h hi
 unfold qp
 congr 2
 by_cases h1:dq (ca s i) x.values=-1
 ·rw[decide_eq_true h1,decide_eq_false (by omega)];rfl
 rw[decide_eq_false h1,decide_eq_true (by omega)];rfl
theorem NA {s:GShow}{x:GState}(hs:bh s)(h:StR s x):mN s x=some (oV s x):=by
 have hln:=h.len
 have h7:=h.right.nodes
 unfold mN oV
 have key:=bB (body:=gU s.nodes (s.nodes.length:Int) x.now x.times x.values) s.nodes.length (fun i=>(i:Int)) (qp s x) (rT:=.inl ()) (rF:=.inr false) ?_ ?_ ?_
 ·rw[show((0:Nat):Int)=0 from rfl]at key
  rw[key,ue]
  simp only[obnd]
  split
  ·rename_i q he
   split at he
   ·rename_i hp;rw[decide_eq_true hp]
   cases he
  rename_i q he
  split at he
  ·cases he
  rename_i hp;cases he;rw[decide_eq_false hp]
 ·intro i hi hp
  obtain⟨b,e1,_,e2⟩:=lX hs h (k:=(i:Int)) (by omega) (by omega)
  rw[Int.toNat_natCast]at e2
  rw[Ab h hi]at hp
  unfold gU
  try simp only
  rw[ifP,e1]
  simp only[obnd]
  rw[iK (by omega)]
  simp only
  by_cases ht:tm x.times (i:Int)=-1
  ·rw[if_pos ht,e2]
   simp only
   rw[decide_eq_true ht]at hp
   rw[if_neg (by simpa using hp),wr];rfl
  rw[if_neg ht,wr];rfl
 ·intro i hi hp
  obtain⟨b,e1,_,e2⟩:=lX hs h (k:=(i:Int)) (by omega) (by omega)
  rw[Int.toNat_natCast]at e2
  rw[Ab h hi]at hp
  simp only[Bool.not_eq_false',Bool.and_eq_true,decide_eq_true_eq]at hp
  unfold gU
  try simp only
  rw[ifP,e1]
  simp only[obnd]
  rw[iK (by omega)]
  simp only
  rw[if_pos hp.1,e2]
  simp only
  rw[if_pos hp.2]
 unfold gU
 try simp only
 rw[ifN]
theorem Kj {s:GShow}{x:GState}(hs:bh s)(h:StR s x):kV s x=some (kE s x):=by
 have hln:=h.len
 have h7:=h.right.nodes
 have h14:=h.right.ties
 unfold kV kE
 have key:=iU (body:=fb s.ties (s.ties.length:Int) s.nodes s.horizon x.now x.times x.values) s.ties (late s x) (fun i=>(i:Int)) (rT:=.inl ()) (fun _=>.inr true) ?_ ?_ ?_
 ·rw[show((0:Nat):Int)=0 from rfl]at key
  have hany:s.ties.any (late s x)=(s.ties.findIdx? (late s x)).isSome:=(List.findIdx?_isSome).symm
  rw[key]
  cases hf:s.ties.findIdx? (late s x) with
  | some i=>rw[hany,hf];rfl
  | none=>
   rw[hany,hf]
   simp only[obnd,Option.isSome_none,Bool.false_or]
   by_cases hh:s.horizon<x.now
   ·have k2:=bB (body:=bZ s.nodes (s.nodes.length:Int) s.ties s.horizon x.now x.times x.values) s.nodes.length (fun i=>(i:Int)) (qp s x) (rT:=.inl ()) (rF:=.inr true) ?_ ?_ ?_
    ·rw[show((0:Nat):Int)=0 from rfl]at k2
     rw[k2,decide_eq_true hh]
     unfold oV
     rw[ue]
     simp only
     split
     ·rename_i q he
      split at he
      ·rename_i hp;rw[decide_eq_true hp];rfl
      cases he
     rename_i q he
     split at he
     ·cases he
     rename_i hp;cases he;rw[decide_eq_false hp];rfl
    ·intro i hi hp
     obtain⟨b,e1,_,e2⟩:=lX hs h (k:=(i:Int)) (by omega) (by omega)
     rw[Int.toNat_natCast]at e2
     rw[Ab h hi]at hp
     unfold bZ
     try simp only
     rw[ifP,e1]
     simp only[obnd]
     rw[if_pos hh,iK (by omega)]
     simp only
     by_cases ht:tm x.times (i:Int)=-1
     ·rw[if_pos ht,e2]
      simp only
      rw[decide_eq_true ht]at hp
      rw[if_neg (by simpa using hp),wr];rfl
     rw[if_neg ht,wr];rfl
    ·intro i hi hp
     obtain⟨b,e1,_,e2⟩:=lX hs h (k:=(i:Int)) (by omega) (by omega)
     rw[Int.toNat_natCast]at e2
     rw[Ab h hi]at hp
     simp only[Bool.not_eq_false',Bool.and_eq_true,decide_eq_true_eq]at hp
     unfold bZ
     try simp only
     rw[ifP,e1]
     simp only[obnd]
     rw[if_pos hh,iK (by omega)]
     simp only
     rw[if_pos hp.1,e2]
     simp only
     rw[if_pos hp.2]
    unfold bZ
    try simp only
    rw[ifN]
   have k2:=ay (body:=bZ s.nodes (s.nodes.length:Int) s.ties s.horizon x.now x.times x.values) s.nodes.length (fun i=>(i:Int)) (r:=.inl ()) ?_ ?_
   ·rw[show((0:Nat):Int)=0 from rfl]at k2
    rw[k2,decide_eq_false hh];rfl
   ·intro i hi
    unfold bZ
    try simp only
    rw[ifP,aq hi]
    simp only[obnd]
    rw[if_neg hh,wr];rfl
   unfold bZ
   try simp only
   rw[ifN]
 ·intro i hi hp
  unfold fb
  try simp only
  rw[ifP,aq hi]
  simp only[obnd]
  rw[show(GShow.mk s.nodes s.ties s.horizon)=s from rfl,show(GState.mk x.now x.times x.values)=x from rfl,Er hs h (List.getElem_mem hi),hp,wr];rfl
 ·intro i hi hp
  unfold fb
  try simp only
  rw[ifP,aq hi]
  simp only[obnd]
  rw[show(GShow.mk s.nodes s.ties s.horizon)=s from rfl,show(GState.mk x.now x.times x.values)=x from rfl,Er hs h (List.getElem_mem hi),hp];rfl
 unfold fb
 try simp only
 rw[ifN]
end Go.Proofs.Qh
set_option maxRecDepth 100000
namespace Go.Proofs.Qh
open Go
def bitV (n:Int)(i:Nat):Int:=wrap .i64 (1 - (wrap .i64 (2*(wrap .i64 (((BitVec.ofInt (IntKind.bits .i64) (Int.fdiv n (2^(min i 64))) &&& BitVec.ofInt (IntKind.bits .i64) 1).toNat:Nat):Int)))))
theorem SH (n:Int)(i:Nat):bitV n i=1∨bitV n i=-1:=by
 unfold bitV
 have h:∀ b:BitVec 64,(b &&& BitVec.ofInt 64 1).toNat=0∨(b &&& BitVec.ofInt 64 1).toNat=1:=by
  intro b
  rw[BitVec.toNat_and]
  have:(BitVec.ofInt 64 1).toNat=1:=by decide
  rw[this,Nat.and_one_is_mod]
  omega
 have:=h (BitVec.ofInt (IntKind.bits .i64) (Int.fdiv n (2^(min i 64))))
 rcases this with h|h
 ·left
  change wrap .i64 (1 - (wrap .i64 (2*(wrap .i64 (((BitVec.ofInt 64 (Int.fdiv n (2^(min i 64))) &&& BitVec.ofInt 64 1).toNat:Nat):Int)))))=1
  change (BitVec.ofInt 64 (Int.fdiv n (2^(min i 64))) &&& BitVec.ofInt 64 1).toNat=0 at h
  rw[h];decide
 right
 change wrap .i64 (1 - (wrap .i64 (2*(wrap .i64 (((BitVec.ofInt 64 (Int.fdiv n (2^(min i 64))) &&& BitVec.ofInt 64 1).toNat:Nat):Int)))))=-1
 change (BitVec.ofInt 64 (Int.fdiv n (2^(min i 64))) &&& BitVec.ofInt 64 1).toNat=1 at h
 rw[h];decide
def pF (m n:Nat):List Int:=(List.range m).map (bitV (n:Int))
def obsL (ps:List Int):List (List Int):=(List.range (2^ps.length)).map (pF ps.length)
theorem sA {ps vs:List Int}(h:vs∈obsL ps):vs.length=ps.length∧∀ v,v∈vs→v=1∨v=-1:=by
 unfold obsL at h
 rw[List.mem_map]at h
 obtain⟨n,_,rfl⟩:=h
 unfold pF
 refine⟨by simp,fun v hv=>?_⟩
 rw[List.mem_map]at hv
 obtain⟨i,_,rfl⟩:=hv
 exact SH _ _
theorem Kk {ps:List Int}(h:ps.length≤7):(obsL ps).length≤128:=by
 unfold obsL
 simpa using qX h
theorem Kl {ps:List Int}(h:Asc ps){i:Nat}(hi:i<ps.length)(h0:0<i):ps.getD (i - 1) 0<ps.getD i 0:=by
 unfold Asc at h
 rw[List.pairwise_iff_getElem]at h
 have:=h (i - 1) i (by omega) hi (by omega)
 rw[List.getD_eq_getElem?_getD,List.getD_eq_getElem?_getD,List.getElem?_eq_getElem hi,List.getElem?_eq_getElem (show i - 1<ps.length by omega)]
 exact this
theorem xE {ps:List Int}(ha:Asc ps)(hp:∀ p,p∈ps→1≤p∧p≤3)(hl:ps.length≤3):fR ps=some (obsL ps):=by
 have pb:∀ i,i<ps.length→1≤ps.getD i 0∧ps.getD i 0≤3:=by
  intro i hi
  rw[List.getD_eq_getElem?_getD,List.getElem?_eq_getElem hi]
  exact hp _ (List.getElem_mem hi)
 have hpow:=qX (m:=ps.length) (by omega)
 unfold fR
 have k1:ah (dS ps (ps.length:Int)) ((0:Nat):Int)=some (.inl ()):=by
  refine ay ps.length (fun i=>(i:Int)) ?_ ?_
  ·intro i hi
   have hb:=pb i hi
   unfold dS
   try simp only
   rw[ifP,bb hi]
   simp only[obnd]
   rw[ifN,ifN,wr (x:=(i:Int)+1)]
   by_cases h0:0<i
   ·rw[ifP,wr,show(i:Int) - 1=((i - 1:Nat):Int) by omega,bb (by omega)]
    simp only
    have:=Kl ha hi h0
    rw[ifN];rfl
   rw[ifN];rfl
  unfold dS
  try simp only
  rw[ifN]
 have k4:∀ (n:Nat) (out:List (List Int)),ah (dT ps (n:Int) (ps.length:Int) out) (((0:Nat):Int),(List.range 0).map (bitV (n:Int)))=some (pF ps.length n):=by
  intro n out
  unfold pF
  refine ay ps.length (fun i=>((i:Int),(List.range i).map (bitV (n:Int)))) ?_ ?_
  ·intro i hi
   unfold dT
   try simp only
   rw[ifP,chP,aA (by simp;omega),aA (by simp;omega),wr (x:=(i:Int)+1),eu,Int.toNat_natCast];rfl
  unfold dT
  try simp only
  rw[ifN]
 have k5:ah (dU ps) (((0:Nat):Int),(List.range 0).map (pF ps.length))=some (obsL ps):=by
  unfold obsL
  refine ay (2^ps.length) (fun i=>((i:Int),(List.range i).map (pF ps.length))) ?_ ?_
  ·intro i hi
   have k:=k4 i ((List.range i).map (pF ps.length))
   simp only[List.range_zero,List.map_nil,Int.natCast_zero]at k
   unfold dU
   try simp only
   rw[chP,pq (by omega),ifP,k]
   simp only[obnd]
   rw[aA (by simp;omega),aA (by simp;omega),wr (x:=(i:Int)+1),eu];rfl
  unfold dU
  try simp only
  rw[chP,pq (by omega),ifN]
 simp only[Int.natCast_zero]at k1
 simp only[List.range_zero,List.map_nil,Int.natCast_zero]at k5
 rw[k1]
 simp only[obnd]
 rw[k5]
theorem xF {ps:List Int}(ha:Asc ps)(hp:∀ p,p∈ps→1≤p∧p≤3)(hl:ps.length≤3):fX ps=some (obsL ps):=by
 have pb:∀ i,i<ps.length→1≤ps.getD i 0∧ps.getD i 0≤3:=by
  intro i hi
  rw[List.getD_eq_getElem?_getD,List.getElem?_eq_getElem hi]
  exact hp _ (List.getElem_mem hi)
 have hpow:=qX (m:=ps.length) (by omega)
 unfold fX
 have k1:ah (dV ps (ps.length:Int)) ((0:Nat):Int)=some (.inl ()):=by
  refine ay ps.length (fun i=>(i:Int)) ?_ ?_
  ·intro i hi
   have hb:=pb i hi
   unfold dV
   try simp only
   rw[ifP,bb hi]
   simp only[obnd]
   rw[bg,decide_eq_true (show(1:Int)≤ps.getD i 0∧ps.getD i 0≤3 by omega),wr (x:=(i:Int)+1)]
   simp only[if_true]
   by_cases h0:0<i
   ·rw[ifP,wr,show(i:Int) - 1=((i - 1:Nat):Int) by omega,bb (by omega)]
    simp only
    have:=Kl ha hi h0
    rw[ifN];rfl
   rw[ifN];rfl
  unfold dV
  try simp only
  rw[ifN]
 have k4:∀ (n:Nat) (out:List (List Int)),ah (dW ps (n:Int) (ps.length:Int) out) (((0:Nat):Int),(List.range 0).map (bitV (n:Int)))=some (pF ps.length n):=by
  intro n out
  unfold pF
  refine ay ps.length (fun i=>((i:Int),(List.range i).map (bitV (n:Int)))) ?_ ?_
  ·intro i hi
   unfold dW
   try simp only
   rw[ifP,wru (by omega),chP,aA (by simp;omega),aA (by simp;omega),wr (x:=(i:Int)+1),eu,Int.toNat_natCast];rfl
  unfold dW
  try simp only
  rw[ifN]
 have k5:ah (dX ps) (((0:Nat):Int),(List.range 0).map (pF ps.length))=some (obsL ps):=by
  unfold obsL
  refine ay (2^ps.length) (fun i=>((i:Int),(List.range i).map (pF ps.length))) ?_ ?_
  ·intro i hi
   have k:=k4 i ((List.range i).map (pF ps.length))
   simp only[List.range_zero,List.map_nil,Int.natCast_zero]at k
   unfold dX
   try simp only
   rw[wru (by omega),chP,Int.toNat_natCast,pq (by omega),ifP,k]
   simp only[obnd]
   rw[aA (by simp;omega),aA (by simp;omega),wr (x:=(i:Int)+1),eu];rfl
  unfold dX
  try simp only
  rw[wru (by omega),chP,Int.toNat_natCast,pq (by omega),ifN]
 simp only[Int.natCast_zero]at k1
 simp only[List.range_zero,List.map_nil,Int.natCast_zero]at k5
 rw[k1]
 simp only[obnd]
 rw[k5]
theorem wr8 {x:Int}(h1:0≤x)(h2:x≤255):wrap .u8 x=x:=by
 unfold IntKind.wrap
 simp[IntKind.bits,IntKind.signed]
 omega
def keyL (x:GState):List Int:=[x.now]++x.times.map (fun n=>n+1)++x.values.map (fun n=>n+1)
def keyS (x:GState):ByteArray:=ga (keyL x)
theorem Es (ns:List Int):(ga ns).data.toList=ns.map (fun n=>UInt8.ofNat n.toNat):=by
 unfold ga
 have key:∀ (ns:List Int) (a:ByteArray),(ns.foldl (fun r n=>r.push (UInt8.ofNat n.toNat)) a).data.toList=a.data.toList++ns.map (fun n=>UInt8.ofNat n.toNat):=by
  intro ns
  induction ns with
  | nil=>intro a;simp
  | cons n ns ih=>
   intro a
   simp only[List.foldl_cons,ih,List.map_cons]
   simp[ByteArray.push]
 rw[key]
 rfl
theorem SI {xs ys:List Int}(hx:∀ n,n∈xs→0≤n∧n≤255)(hy:∀ n,n∈ys→0≤n∧n≤255)(h:xs.map (fun n=>UInt8.ofNat n.toNat)=ys.map (fun n=>UInt8.ofNat n.toNat)):xs=ys:=by
 induction xs generalizing ys with
 | nil=>cases ys with
  | nil=>rfl
  | cons y ys=>simp at h
 | cons x xs ih=>cases ys with
  | nil=>simp at h
  | cons y ys=>
   simp only[List.map_cons,List.cons.injEq]at h
   have h1:=hx x (by simp)
   have h2:=hy y (by simp)
   have h3:=congrArg UInt8.toNat h.1
   simp only[UInt8.toNat_ofNat']at h3
   have:x=y:=by omega
   rw[this,ih (fun n hn=>hx n (by simp[hn])) (fun n hn=>hy n (by simp[hn])) h.2]
theorem SJ {ts:List Int}{n:Int}(h:n∈ts):∃ i,i<ts.length∧n=tm ts (i:Int):=by
 obtain⟨i,hi,rfl⟩:=List.getElem_of_mem h
 refine⟨i,hi,?_⟩
 unfold tm
 rw[Int.toNat_natCast,List.getElem?_eq_getElem hi];rfl
theorem Km {s:GShow}{x:GState}(h:StR s x):(∀ n,n∈x.times→-1≤n∧n≤11)∧(∀ n,n∈x.values→-1≤n∧n≤1)∧∀ n,n∈keyL x→0≤n∧n≤255:=by
 have hn:=h.now
 have hh:=h.right.hor
 have ht:∀ n,n∈x.times→-1≤n∧n≤11:=by
  intro n hn
  obtain⟨i,hi,rfl⟩:=SJ hn
  exact h.all _ (by omega) (by have:=h.len;omega)
 have hv:=(bG h.val).2
 refine⟨ht,hv,?_⟩
 intro n hm
 unfold keyL at hm
 simp only[List.mem_append,List.mem_map,List.mem_singleton]at hm
 rcases hm with (rfl|⟨m,hm,rfl⟩)|⟨m,hm,rfl⟩
 ·omega
 ·have:=ht m hm;omega
 have:=hv m hm;omega
theorem Kn {xs ys:List Int}(h:xs.map (fun n=>n+1)=ys.map (fun n=>n+1)):xs=ys:=by
 have:=congrArg (fun l=>l.map (fun n:Int=>n - 1)) h
 simpa [Function.comp_def] using this
theorem QS {s:GShow}{x y:GState}(hx:StR s x)(hy:StR s y)(h:keyS x=keyS y):x=y:=by
 have h1:=congrArg (fun b=>b.data.toList) h
 simp only[keyS,Es]at h1
 have h2:=SI (Km hx).2.2 (Km hy).2.2 h1
 unfold keyL at h2
 have hlen:x.times.length=y.times.length:=by rw[hx.len,hy.len]
 have e1:=List.append_inj h2 (by simp[hlen])
 obtain⟨e2,e3⟩:=e1
 simp only[List.singleton_append,List.cons.injEq]at e2
 have e4:=Kn e2.2
 have e5:=Kn e3
 obtain⟨a,b,c⟩:=x
 obtain⟨a',b',c'⟩:=y
 simp only at e2 e4 e5
 rw[e2.1,e4,e5]
theorem WO {s:GShow}{x:GState}(h:StR s x):qj x=some (keyS x):=by
 obtain⟨ht,hv,_⟩:=Km h
 have hn:=h.now
 have hh:=h.right.hor
 have hln:=h.len
 have h7:=h.right.nodes
 have h3:=(bG h.val).1
 unfold qj
 have k1:ah (nM x.times (x.times.length:Int) x.now x.values) (((0:Nat):Int),[x.now]++(x.times.take 0).map (fun n=>n+1))=some ([x.now]++x.times.map (fun n=>n+1)):=by
  refine ay x.times.length (fun i=>((i:Int),[x.now]++(x.times.take i).map (fun n=>n+1))) ?_ ?_
  ·intro i hi
   have hb:=ht _ (List.getElem_mem hi)
   unfold nM
   try simp only
   rw[ifP,aq hi]
   simp only[obnd]
   rw[aA (by simp;omega),aA (by simp;omega),wr (x:=(i:Int)+1),wr (x:=x.times[i]+1),wr8 (by omega) (by omega),List.take_succ_eq_append_getElem hi,List.map_append,← List.append_assoc];rfl
  unfold nM
  try simp only
  rw[ifN,List.take_length]
 have k2:ah (nN x.values (x.values.length:Int)) (((0:Nat):Int),[x.now]++x.times.map (fun n=>n+1)++(x.values.take 0).map (fun n=>n+1))=some (keyL x):=by
  unfold keyL
  refine ay x.values.length (fun i=>((i:Int),[x.now]++x.times.map (fun n=>n+1)++(x.values.take i).map (fun n=>n+1))) ?_ ?_
  ·intro i hi
   have hb:=hv _ (List.getElem_mem hi)
   unfold nN
   try simp only
   rw[ifP,aq hi]
   simp only[obnd]
   rw[aA (by simp;omega),aA (by simp;omega),wr (x:=(i:Int)+1),wr (x:=x.values[i]+1),wr8 (by omega) (by omega),List.take_succ_eq_append_getElem hi,List.map_append,← List.append_assoc];rfl
  unfold nN
  try simp only
  rw[ifN,List.take_length]
 simp only[List.take_zero,List.map_nil,Int.natCast_zero,List.append_nil]at k1 k2
 rw[wr8 (by omega) (by omega),k1]
 simp only[obnd]
 rw[k2];rfl
end Go.Proofs.Qh
set_option maxRecDepth 100000
namespace Go.Proofs.Qh
open Go
def ki (r:GState→Bool)(s:GShow)(y:GState)(nodes:List Int):Bool:=(obsL (aV s nodes)).all (fun vs=>r (obsX (decX y nodes) (aV s nodes) vs))
def anyB (r:GState→Bool)(s:GShow)(y:GState):Bool:=(decL s y).any (ki r s y)
noncomputable def mO (r:GState→Bool)(s:GShow)(x:GState):Bool:=
 if kE s x=true then false else if oV s x=true then true else (cH s x).all (fun ties=>anyB r s (endX s x ties))
noncomputable def winF:Nat→GShow→GState→Bool
 | 0,_,_=>false
 | n+1,s,x=>mO (winF n s) s x
noncomputable def win (s:GShow)(x:GState):Bool:=winF 12 s x
theorem BK {r r':GState→Bool}{s:GShow}{y:GState}(h:MomR s y){nodes:List Int}(hn:nodes∈decL s y)(hr:∀ z,aJ s z=true→z.now=y.now+1→r z=r' z):ki r s y nodes=ki r' s y nodes:=by
 obtain⟨_,_,hm⟩:=rx h.right hn
 unfold ki
 rw[Bool.eq_iff_iff,List.all_eq_true,List.all_eq_true]
 have key:∀ vs,vs∈obsL (aV s nodes)→r (obsX (decX y nodes) (aV s nodes) vs)=r' (obsX (decX y nodes) (aV s nodes) vs):=by
  intro vs hv
  obtain⟨h1,h2⟩:=sA hv
  exact hr _ (Eo h hm h1 h2) rfl
 exact⟨fun h vs hv=>by rw[← key vs hv];exact h vs hv,fun h vs hv=>by rw[key vs hv];exact h vs hv⟩
theorem NB {r r':GState→Bool}{s:GShow}{y:GState}(h:MomR s y)(hr:∀ z,aJ s z=true→z.now=y.now+1→r z=r' z):anyB r s y=anyB r' s y:=by
 unfold anyB
 rw[Bool.eq_iff_iff,List.any_eq_true,List.any_eq_true]
 exact⟨fun ⟨nd,h1,h2⟩=>⟨nd,h1,by rw[← BK h h1 hr];exact h2⟩,fun ⟨nd,h1,h2⟩=>⟨nd,h1,by rw[BK h h1 hr];exact h2⟩⟩
theorem vy {s:GShow}{x:GState}(hx:aJ s x=true){ties:List Int}(ht:ties∈cH s x):MomR s (endX s x ties):=by
 obtain⟨h1,h2,h3⟩:=wN (cA hx).ok ht
 exact OZ (QO hx h1 h3)
theorem HL {r r':GState→Bool}{s:GShow}{x:GState}(hx:aJ s x=true)(hr:∀ z,aJ s z=true→z.now=x.now+1→r z=r' z):mO r s x=mO r' s x:=by
 unfold mO
 cases kE s x
 ·cases oV s x
  ·simp only[Bool.false_eq_true,if_false]
   rw[Bool.eq_iff_iff,List.all_eq_true,List.all_eq_true]
   have key:∀ ties,ties∈cH s x→anyB r s (endX s x ties)=anyB r' s (endX s x ties):=fun ties ht=>NB (vy hx ht) hr
   exact⟨fun h t ht=>by rw[← key t ht];exact h t ht,fun h t ht=>by rw[key t ht];exact h t ht⟩
  rfl
 rfl
theorem BL {s:GShow}:∀ (n:Nat) (x:GState),aJ s x=true→12≤(n:Int)+x.now→winF (n+1) s x=winF n s x
 | 0,x,hx,h=>by
  have:=(cA hx).now
  have:=(cA hx).right.hor
  omega
 | n+1,x,hx,h=>by
  show mO (winF (n+1) s) s x=mO (winF n s) s x
  exact HL hx (fun z hz hn=>BL n z hz (by omega))
theorem SK {s:GShow}{x:GState}(hx:aJ s x=true){n:Nat}(h:12≤(n:Int)+x.now):winF n s x=win s x:=by
 have hn:=(cA hx).now
 unfold win
 have up:∀ k m:Nat,12≤(m:Int)+x.now→winF (m+k) s x=winF m s x:=by
  intro k
  induction k with
  | zero=>intro m _;rfl
  | succ k ih=>
   intro m hm
   rw[← Nat.add_assoc,BL (m+k) x hx (by omega),ih m hm]
 rcases Nat.le_total n 12 with h1|h1
 ·have:=up (12 - n) n h
  rw[show n+(12 - n)=12 by omega]at this
  exact this.symm
 have:=up (n - 12) 12 (by omega)
 rwa [show 12+(n - 12)=n by omega]at this
theorem Ko {s:GShow}{x:GState}(hx:aJ s x=true):win s x=mO (win s) s x:=by
 have h1:win s x=winF 13 s x:=(SK hx (by have:=(cA hx).now;omega)).symm
 rw[h1]
 show mO (winF 12 s) s x=_
 rfl
theorem Kq {α β ρ:Type}(xs:List α)(q:α→Bool)(I:β→Prop)(body:Int × β→Option (Step (Int × β) ρ))(rT rF:β→ρ)
  (h1:∀ i (hi:i<xs.length) k,I k→∃ k',I k'∧body ((i:Int),k)=some (if q xs[i]=true then .next ((i:Int)+1,k') else .done (rF k')))
  (h2:∀ k,I k→body ((xs.length:Int),k)=some (.done (rT k))) (k:β) (hk:I k) :
  ∃ k',I k'∧ah body (0,k)=some (if xs.all q=true then rT k' else rF k'):=by
 have key:=br (body:=body) (s0:=((0:Int),k)) xs.length (fun i st=>st.1=(i:Int)∧I st.2∧∀ j (hj:j<xs.length),j<i→q xs[j]=true)
  (fun r=>∃ k',I k'∧r=(if xs.all q=true then rT k' else rF k')) ⟨rfl,hk,fun j _ h=>absurd h (by omega)⟩ ?_ ?_
 ·obtain⟨r,hr,hp⟩:=key
  obtain⟨k',h3,rfl⟩:=hp
  exact⟨k',h3,hr⟩
 ·rintro i ⟨a,k⟩ hi ⟨rfl,hI,hall⟩
  obtain⟨k',hk',hb⟩:=h1 i hi k hI
  cases hq:q xs[i]
  ·rw[hq,if_neg (by simp)]at hb
   refine .inr ⟨_,hb,k',hk',?_⟩
   rw[if_neg]
   intro hA
   rw[List.all_eq_true]at hA
   have:=hA _ (List.getElem_mem hi)
   rw[hq]at this;cases this
  rw[hq,if_pos rfl]at hb
  refine .inl ⟨_,hb,rfl,hk',fun j hj hlt=>?_⟩
  rcases Nat.lt_or_ge j i with h|h
  ·exact hall j hj h
  obtain rfl:j=i:=by omega
  exact hq
 rintro⟨a,k⟩ ⟨rfl,hI,hall⟩
 refine⟨_,h2 k hI,k,hI,?_⟩
 rw[if_pos]
 rw[List.all_eq_true]
 intro x hx
 obtain⟨j,hj,rfl⟩:=List.getElem_of_mem hx
 exact hall j hj hj
theorem Pb {α β ρ:Type}(xs:List α)(q:α→Bool)(I:β→Prop)(body:Int × β→Option (Step (Int × β) ρ))(rT:β→ρ)(rF:α→β→ρ)
  (h1:∀ i (hi:i<xs.length) k,I k→∃ k',I k'∧body ((i:Int),k)=some (if q xs[i]=true then .done (rF xs[i] k') else .next ((i:Int)+1,k')))
  (h2:∀ k,I k→body ((xs.length:Int),k)=some (.done (rT k))) (k:β) (hk:I k) :
  ∃ k',I k'∧ah body (0,k)=some (match xs.find? q with|some a=>rF a k'|none=>rT k'):=by
 have key:=br (body:=body) (s0:=((0:Int),k)) xs.length (fun i st=>st.1=(i:Int)∧I st.2∧∀ j (hj:j<xs.length),j<i→q xs[j]=false)
  (fun r=>∃ k',I k'∧r=(match xs.find? q with|some a=>rF a k'|none=>rT k')) ⟨rfl,hk,fun j _ h=>absurd h (by omega)⟩ ?_ ?_
 ·obtain⟨r,hr,hp⟩:=key
  obtain⟨k',h3,rfl⟩:=hp
  exact⟨k',h3,hr⟩
 ·rintro i ⟨a,k⟩ hi ⟨rfl,hI,hall⟩
  obtain⟨k',hk',hb⟩:=h1 i hi k hI
  cases hq:q xs[i]
  ·rw[hq,if_neg (by simp)]at hb
   refine .inl ⟨_,hb,rfl,hk',fun j hj hlt=>?_⟩
   rcases Nat.lt_or_ge j i with h|h
   ·exact hall j hj h
   obtain rfl:j=i:=by omega
   exact hq
  rw[hq,if_pos rfl]at hb
  refine .inr ⟨_,hb,k',hk',?_⟩
  have:xs.find? q=some xs[i]:=by
   rw[List.find?_eq_some_iff_getElem]
   exact⟨hq,i,hi,rfl,fun j hj=>by simp[hall j (by omega) hj]⟩
  rw[this]
 rintro⟨a,k⟩ ⟨rfl,hI,hall⟩
 refine⟨_,h2 k hI,k,hI,?_⟩
 have:xs.find? q=none:=by
  rw[List.find?_eq_none]
  intro x hx
  obtain⟨j,hj,rfl⟩:=List.getElem_of_mem hx
  simp[hall j hj hj]
 rw[this]
def jw (s:GShow)(k:List (ByteArray × Bool)):Prop:=∀ x b,aJ s x=true→pz (keyS x) k=some b→b=win s x
theorem Pc (s:GShow):jw s []:=fun x b _ h=>by cases h
theorem Pd (a c:ByteArray)(b:Bool):∀ k,pz a (setB c b k)=if a == c then some b else pz a k:=by
 intro k
 induction k with
 | nil=>simp only[setB,pz]
 | cons p k ih=>
  simp only[setB,pz]
  by_cases h:(c == p.1)=true
  ·rw[if_pos h]
   simp only[pz]
   obtain rfl:=(Go.MapKept.bytes_beq _ _).1 h
   split <;> rfl
  rw[if_neg h]
  simp only[pz,ih]
  by_cases h2:(a == p.1)=true
  ·rw[if_pos h2,if_pos h2]
   rw[if_neg]
   intro h3
   obtain rfl:=(Go.MapKept.bytes_beq _ _).1 h3
   exact h h2
  rw[if_neg h2,if_neg h2]
theorem Pe {s:GShow}{k:List (ByteArray × Bool)}(h:jw s k){x:GState}(hx:aJ s x=true):jw s (setB (keyS x) (win s x) k):=by
 intro y b hy hf
 rw[Pd]at hf
 split at hf
 ·rename_i he
  cases hf
  have:=QS (cA hy) (cA hx) ((Go.MapKept.bytes_beq _ _).1 he)
  rw[this]
 exact h y b hy hf
abbrev RecT:=GShow→(List (ByteArray × Bool))→GState→Option (Bool × (List (ByteArray × Bool)))
def Et (s:GShow)(t:Int)(rec:RecT):Prop:=∀ known x,aJ s x=true→x.now=t→jw s known→∃ known',jw s known'∧rec s known x=some (win s x,known')
theorem Lz {s:GShow}{rec:RecT}{y:GState}(hr:Et s (y.now+1) rec)(h:MomR s y){nodes:List Int}(hn:nodes∈decL s y){known:List (ByteArray × Bool)}(hk:jw s known) :
  ∃ known',jw s known'∧gv rec s known y nodes=some (ki (win s) s y nodes,known'):=by
 obtain⟨ha,hl7,hm⟩:=rx h.right hn
 have hv:=(bG h.val).1
 have h7:=h.right.nodes
 have hln:=h.len
 have hnow:=h.now
 have hh:=h.right.hor
 have hp:∀ p,p∈aV s nodes→1≤p∧p≤3:=fun p hp=>⟨(jp hp).1,(jp hp).2.1⟩
 have hl3:=Hk s nodes
 have ho:=Kk (ps:=aV s nodes) (by omega)
 unfold gv
 rw[Nz h ha hl7 hm]
 simp only[obnd]
 rw[xE (yz s nodes) hp hl3]
 simp only
 have key:=Kq (obsL (aV s nodes)) (fun vs=>win s (obsX (decX y nodes) (aV s nodes) vs)) (jw s)
  (dL rec (((obsL (aV s nodes)).length:Nat):Int) (decX y nodes).now (decX y nodes).times (decX y nodes).values (aV s nodes) (obsL (aV s nodes)) s.nodes s.ties s.horizon)
  (fun k=>.inl k) (fun k=>.inr (false,k)) ?_ ?_ known hk
 ·obtain⟨k',hk',e⟩:=key
  rw[e]
  refine⟨k',hk',?_⟩
  unfold ki
  cases(obsL (aV s nodes)).all (fun vs=>win s (obsX (decX y nodes) (aV s nodes) vs)) <;> rfl
 ·intro i hi k hk
  obtain⟨h1,h2⟩:=sA (List.getElem_mem hi)
  have hob:=Eo h hm h1 h2
  obtain⟨k',hk',e⟩:=hr k _ hob rfl hk
  refine⟨k',hk',?_⟩
  unfold dL
  try simp only
  rw[ifP,aq hi]
  simp only[obnd]
  rw[show(GState.mk (decX y nodes).now (decX y nodes).times (decX y nodes).values)=decX y nodes from rfl,(BJ (decX y nodes) (aV s nodes) _ (by show 0≤y.now∧y.now≤1000;omega) (by show(bE _ _ _ _).length≤_;rw[iO];omega) hv hp h1 (by omega)).1]
  simp only
  rw[show(GShow.mk s.nodes s.ties s.horizon)=s from rfl,e]
  simp only
  rw[wr]
  cases win s (obsX (decX y nodes) (aV s nodes) (obsL (aV s nodes))[i]) <;> rfl
 intro k _
 unfold dL
 try simp only
 rw[ifN]
theorem NC {s:GShow}(hs:bh s){rec:RecT}{y:GState}(hr:Et s (y.now+1) rec)(h:MomR s y){known:List (ByteArray × Bool)}(hk:jw s known) :
  ∃ known',jw s known'∧ic rec s known y=some (match (decL s y).find? (ki (win s) s y) with|some nd=>(nd,true,known')|none=>([],false,known')):=by
 have hl:=QP h.right y
 unfold ic
 rw[Kg hs h]
 simp only[obnd]
 have key:=Pb (decL s y) (ki (win s) s y) (jw s) (gw rec (((decL s y).length:Nat):Int) y.now y.times y.values (decL s y) s.nodes s.ties s.horizon)
  (fun k=>.inl k) (fun nd k=>.inr (nd,true,k)) ?_ ?_ known hk
 ·obtain⟨k',hk',e⟩:=key
  rw[e]
  refine⟨k',hk',?_⟩
  cases(decL s y).find? (ki (win s) s y) <;> rfl
 ·intro i hi k hk
  obtain⟨k',hk',e⟩:=Lz hr h (List.getElem_mem hi) hk
  refine⟨k',hk',?_⟩
  unfold gw
  try simp only
  rw[ifP,aq hi]
  simp only[obnd]
  rw[show(GShow.mk s.nodes s.ties s.horizon)=s from rfl,show(GState.mk y.now y.times y.values)=y from rfl,e]
  simp only
  rw[wr]
  cases ki (win s) s y (decL s y)[i] <;> rfl
 intro k _
 unfold gw
 try simp only
 rw[ifN]
theorem Pf {s:GShow}(hs:bh s){rec:RecT}{x:GState}(hx:aJ s x=true)(hr:Et s (x.now+1) rec){known:List (ByteArray × Bool)}(hk:jw s known) :
  ∃ known',jw s known'∧ji rec s known x=some (win s x,known'):=by
 have hR:=cA hx
 have hv:=(bG hR.val).1
 have hel:=OX (x:=x) hR.ok
 unfold ji
 rw[Ly hs hR]
 simp only[obnd]
 have hw:=Ko hx
 unfold mO at hw
 cases hb:kE s x
 ·rw[hb]at hw
  simp only[Bool.false_eq_true,if_false]at hw ⊢
  rw[Ep hs hR]
  simp only
  cases ho:oV s x
  ·rw[ho]at hw
   simp only[Bool.false_eq_true,if_false]at hw ⊢
   rw[WO hR]
   simp only
   cases hf:pz (keyS x) known with
   | some b=>exact⟨known,hk,by rw[← hk x b hx hf];rfl⟩
   | none=>
    simp only[In]
    rw[Nw hx]
    simp only
    have key:=Kq (cH s x) (fun ties=>anyB (win s) s (endX s x ties)) (jw s) (ie rec (keyS x) (((cH s x).length:Nat):Int) x.now x.times x.values (cH s x) s.nodes s.ties s.horizon)
     (fun k=>(true,k)) (fun k=>(false,k)) ?_ ?_ known hk
    ·obtain⟨k',hk',e⟩:=key
     rw[e]
     refine⟨_,Pe hk' hx,?_⟩
     rw[hw]
     cases(cH s x).all (fun ties=>anyB (win s) s (endX s x ties)) <;> rfl
    ·intro i hi k hk
     have hmem:=List.getElem_mem hi
     obtain⟨h1,h2,h3⟩:=wN hR.ok hmem
     have hM:=vy hx hmem
     obtain⟨k',hk',e⟩:=NC hs (y:=endX s x (cH s x)[i]) hr hM hk
     refine⟨k',hk',?_⟩
     unfold ie
     try simp only
     rw[ifP,aq hi]
     simp only[obnd]
     rw[show(GShow.mk s.nodes s.ties s.horizon)=s from rfl,show(GState.mk x.now x.times x.values)=x from rfl,QN hx (by omega) (by omega) h3]
     simp only
     rw[e]
     have hany:anyB (win s) s (endX s x (cH s x)[i])=((decL s (endX s x (cH s x)[i])).find? (ki (win s) s (endX s x (cH s x)[i]))).isSome:=by
      unfold anyB
      rw[Bool.eq_iff_iff,List.find?_isSome,List.any_eq_true]
     rw[hany,wr]
     cases(decL s (endX s x (cH s x)[i])).find? (ki (win s) s (endX s x (cH s x)[i])) <;> rfl
    intro k _
    unfold ie
    try simp only
    rw[ifN]
  rw[ho]at hw
  exact⟨known,hk,by rw[hw];rfl⟩
 rw[hb]at hw
 exact⟨known,hk,by rw[hw];rfl⟩
theorem Hl {s:GShow}(hs:bh s):∀ (n:Nat) (t:Int),12≤(n:Int)+t→Et s t (ju n)
 | 0,t,h=>by
  intro known x hx ht hk
  have:=(cA hx).now
  have:=(cA hx).right.hor
  omega
 | n+1,t,h=>by
  intro known x hx ht hk
  exact Pf hs hx (by rw[ht];exact Hl hs n (t+1) (by omega)) hk
theorem SL {s:GShow}(hs:bh s)(t:Int)(h:0≤t):Et s t m_impl_game_wins:=Hl hs 40 t (by omega)
end Go.Proofs.Qh
set_option maxRecDepth 100000
namespace Go.Proofs.Qh
open Go
structure Ext (s:GShow) (x z:GState):Prop where
 t1:∀ i:Int,0≤i→i<s.nodes.length→tm x.times i≠-1→tm z.times i=tm x.times i
 t2:∀ i:Int,0≤i→i<s.nodes.length→tm x.times i=-1→tm z.times i=-1∨(x.now≤tm z.times i∧tm z.times i≤s.horizon)
 v:∀ k:Int,0≤k→tm x.values k≠0→tm z.values k=tm x.values k
theorem QT {s:GShow}{x:GState}(hx:aJ s x=true)(hh:x.now≤s.horizon){ties:List Int}(ht:ties∈cH s x){nodes:List Int}(hn:nodes∈decL s (endX s x ties))(vs:List Int) :
  Ext s x (obsX (decX (endX s x ties) nodes) (aV s nodes) vs):=by
 have hR:=cA hx
 obtain⟨_,_,ha⟩:=wN hR.ok ht
 have hM:=vy hx ht
 obtain⟨_,_,hm⟩:=rx hM.right hn
 have hlen:(endX s x ties).times.length=s.nodes.length:=hM.len
 have e1:∀ i:Int,0≤i→tm (bE (fun k=>k) (endX s x ties).now nodes (endX s x ties).times) i=if i∈nodes then x.now else tm (endX s x ties).times i:=by
  intro i hi
  rw[ud _ _ _ _ _ hi (fun k hk=>by obtain⟨j,hj,e,_,_⟩:=pE (hm k hk);omega),List.map_id']
  rfl
 have hopen:∀ i:Int,0≤i→i∈nodes→tm (endX s x ties).times i=-1:=by
  intro i hi hmem
  obtain⟨j,hj,rfl,_,h⟩:=pE (hm i hmem)
  exact h
 have hto:∀ i:Int,0≤i→i∈ties.map (fun k=>(au s k).to)→tm x.times i=-1:=by
  intro i hi hmem
  rw[List.mem_map]at hmem
  obtain⟨k,hk,rfl⟩:=hmem
  obtain⟨j,hj,rfl,_,_,h⟩:=tk (ha _ hk)
  rwa [dY hj]
 have eT:∀ i:Int,0≤i→tm (obsX (decX (endX s x ties) nodes) (aV s nodes) vs).times i=if i∈nodes then x.now else if i∈ties.map (fun k=>(au s k).to) then x.now else tm x.times i:=by
  intro i hi
  show tm (bE (fun k=>k) (endX s x ties).now nodes (endX s x ties).times) i=_
  rw[e1 i hi,zY hx ha hi]
 refine⟨?_,?_,?_⟩
 ·intro i hi hl hne
  rw[eT i hi]
  by_cases h2:i∈ties.map (fun k=>(au s k).to)
  ·exact absurd (hto i hi h2) hne
  rw[if_neg h2]
  by_cases h1:i∈nodes
  ·have:=hopen i hi h1
   rw[zY hx ha hi,if_neg h2]at this
   exact absurd this hne
  rw[if_neg h1]
 ·intro i hi hl he
  rw[eT i hi]
  split
  ·right;omega
  split
  ·right;omega
  left;exact he
 intro k hk hne
 show tm (setV (aV s nodes) vs x.values (aV s nodes).length) k=_
 refine Aa (bG hR.val).1 (fun p hp=>⟨(jp hp).1,(jp hp).2.1⟩) _ (Nat.le_refl _) k hk ?_
 intro i hi he
 have hpm:(aV s nodes).getD i 0∈aV s nodes:=by
  rw[List.getD_eq_getElem?_getD,List.getElem?_eq_getElem hi]
  exact List.getElem_mem _
 obtain⟨p1,p2,p3⟩:=jp hpm
 have hnx:=hM.nxt
 unfold aJ at hnx
 simp only[Bool.and_eq_true,decide_eq_true_eq]at hnx
 have hw:=hnx.2 k.toNat (by show k.toNat<3;omega)
 unfold nT at hw
 change (decide (tm x.values ((k.toNat:Nat):Int)≠0) == (decide (0≤aY s (((k.toNat:Nat):Int)+1))&&decide (tm (endX s x ties).times (aY s (((k.toNat:Nat):Int)+1))≠-1)))=true at hw
 rw[show((k.toNat:Nat):Int)=k by omega,show k+1=(aV s nodes).getD i 0 by omega]at hw
 obtain⟨j,hj,e,_,h⟩:=pE (hm _ p3)
 rw[e,h]at hw
 simp only[ne_eq,not_true_eq_false,decide_false,Bool.and_false,beq_iff_eq,decide_eq_false_iff_not,Decidable.not_not]at hw
 exact hne hw
theorem WP (ps:List Int):∃ vs,vs∈obsL ps:=by
 unfold obsL
 exact⟨_,List.mem_map.2 ⟨0,List.mem_range.2 (Nat.pow_pos (by omega)),rfl⟩⟩
theorem SM {s:GShow}{x:GState}(h:x.now≤s.horizon):∃ ties,ties∈cH s x:=by
 unfold cH
 rw[ifN]
 exact⟨_,List.mem_map.2 ⟨0,List.mem_range.2 (Nat.pow_pos (by omega)),rfl⟩⟩
theorem Kr {s:GShow}:∀ (n:Nat) (x:GState),aJ s x=true→12≤(n:Int)+x.now→win s x=true→∃ z,aJ s z=true∧kE s z=false∧oV s z=true∧Ext s x z
 | 0,x,hx,h,_=>by
  have:=(cA hx).now
  have:=(cA hx).right.hor
  omega
 | n+1,x,hx,h,hw=>by
  have hR:=cA hx
  rw[Ko hx]at hw
  unfold mO at hw
  cases hb:kE s x
  ·rw[hb]at hw
   simp only[Bool.false_eq_true,if_false]at hw
   cases ho:oV s x
   ·rw[ho]at hw
    simp only[Bool.false_eq_true,if_false]at hw
    have hh:x.now≤s.horizon:=by
     unfold kE at hb
     rw[Bool.or_eq_false_iff,ho]at hb
     have:=hb.2
     simp only[Bool.not_false,Bool.and_true,decide_eq_false_iff_not]at this
     omega
    obtain⟨ties,ht⟩:=SM hh
    have h1:=List.all_eq_true.1 hw ties ht
    unfold anyB at h1
    rw[List.any_eq_true]at h1
    obtain⟨nodes,hn,h2⟩:=h1
    obtain⟨vs,hv⟩:=WP (aV s nodes)
    unfold ki at h2
    have h3:=List.all_eq_true.1 h2 vs hv
    obtain⟨l1,l2⟩:=sA hv
    have hM:=vy hx ht
    obtain⟨_,_,hm⟩:=rx hM.right hn
    have hy:=Eo hM hm l1 l2
    obtain⟨z,z1,z2,z3,z4⟩:=Kr n _ hy (by show 12≤(n:Int)+(x.now+1);omega) h3
    have he:=QT hx hh ht hn vs
    refine⟨z,z1,z2,z3,?_,?_,?_⟩
    ·intro i hi hl hne
     rw[z4.t1 i hi hl (by rw[he.t1 i hi hl hne];exact hne),he.t1 i hi hl hne]
    ·intro i hi hl heq
     rcases he.t2 i hi hl heq with h5|h5
     ·rcases z4.t2 i hi hl h5 with h6|h6
      ·exact .inl h6
      refine .inr ⟨?_,h6.2⟩
      have:(obsX (decX (endX s x ties) nodes) (aV s nodes) vs).now=x.now+1:=rfl
      omega
     rw[z4.t1 i hi hl (by have:=hR.now;omega)]
     exact .inr h5
    intro k hk hne
    rw[z4.v k hk (by rw[he.v k hk hne];exact hne),he.v k hk hne]
   exact⟨x,hx,hb,ho,fun _ _ _ _=>rfl,fun _ _ _ h=>.inl h,fun _ _ _=>rfl⟩
  rw[hb]at hw
  simp at hw
theorem Pg {l v:List Int}:dq l v=1↔∀ x,x∈l→1≤litV v x:=by
 unfold dq
 have key:∀ (l:List Int) (o:Int),o≤1→(l.foldl (fun o x=>if litV v x<o then litV v x else o) o=1↔o=1∧∀ x,x∈l→1≤litV v x)∧l.foldl (fun o x=>if litV v x<o then litV v x else o) o≤1:=by
  intro l
  induction l with
  | nil=>intro o ho;simp[ho]
  | cons x l ih=>
   intro o ho
   simp only[List.foldl_cons,List.mem_cons,forall_eq_or_imp]
   split
   ·rename_i h
    have:=ih (litV v x) (by omega)
    refine⟨?_,this.2⟩
    rw[this.1]
    constructor
    ·rintro⟨h1,h2⟩
     omega
    rintro⟨h1,h2,h3⟩
    omega
   rename_i h
   have:=ih o ho
   refine⟨?_,this.2⟩
   rw[this.1]
   constructor
   ·rintro⟨h1,h2⟩
    exact⟨h1,by omega,h2⟩
   rintro⟨h1,h2,h3⟩
   exact⟨h1,h3⟩
 have:=(key l 1 (by omega)).1
 simpa using this
def iP (s:GShow)(x:GState)(i:Int):Bool:=decide (dq (ca s i.toNat) x.values=1)
theorem QU {s:GShow}{x z:GState}(h:StR s x)(he:Ext s x z){i:Int}(h0:0≤i)(h1:i<s.nodes.length)(hs:iP s x i=true):iP s z i=true:=by
 unfold iP at hs ⊢
 rw[decide_eq_true_eq]at hs ⊢
 rw[Pg]at hs ⊢
 intro q hq
 have hl:=rv h.ok (i:=i.toNat) (by omega)
 rw[oE (show i.toNat<s.nodes.length by omega)]at hq hs
 obtain⟨p1,p2,p3⟩:=yD hl.1 hq
 have hpos:0≤pr q - 1:=by omega
 have:=hs q hq
 unfold litV at this ⊢
 split
 ·rename_i hlt
  rw[if_pos hlt]at this
  rw[he.v _ hpos (by omega)];exact this
 rename_i hlt
 rw[if_neg hlt]at this
 rw[he.v _ hpos (by omega)];exact this
structure Good (s:GShow) (x:GState) (T:Int→Int):Prop where
 fix:∀ i:Int,0≤i→i<s.nodes.length→iP s x i=true→tm x.times i≠-1→T i=tm x.times i
 free:∀ i:Int,0≤i→i<s.nodes.length→iP s x i=true→tm x.times i=-1→x.now≤T i∧T i≤s.horizon
 tie:∀ t,t∈s.ties→iP s x t.from_=true→iP s x t.to=true→t.low≤T t.to - T t.from_∧T t.to - T t.from_≤t.high
theorem QV {s:GShow}{x:GState}(hx:aJ s x=true)(hw:win s x=true):∃ T,Good s x T:=by
 have hR:=cA hx
 obtain⟨z,z1,z2,z3,z4⟩:=Kr 12 x hx (by have:=hR.now;omega) hw
 have hZ:=cA z1
 have happ:∀ i:Int,0≤i→i<s.nodes.length→iP s x i=true→tm z.times i≠-1:=by
  intro i h0 h1 hs he
  have hsz:=QU hR z4 h0 h1 hs
  unfold oV at z3
  rw[ue,decide_eq_true_eq]at z3
  have:=z3 i.toNat (by omega)
  unfold qp at this
  unfold iP at hsz
  rw[decide_eq_true_eq]at hsz
  rw[show((i.toNat:Nat):Int)=i by omega,he,hsz]at this
  simp at this
 refine⟨fun i=>tm z.times i,?_,?_,?_⟩
 ·intro i h0 h1 _ hne
  exact z4.t1 i h0 h1 hne
 ·intro i h0 h1 hs he
  rcases z4.t2 i h0 h1 he with h|h
  ·exact absurd h (happ i h0 h1 hs)
  exact h
 intro t ht h1 h2
 have hT:=hR.right.tie t ht
 have a1:=happ _ hT.f0 hT.f1 h1
 have a2:=happ _ hT.t0 hT.t1 h2
 unfold kE at z2
 rw[Bool.or_eq_false_iff,List.any_eq_false]at z2
 have:=z2.1 t ht
 unfold late at this
 rw[if_neg a1,if_neg a2]at this
 simp only[Bool.or_eq_true,decide_eq_true_eq,not_or]at this
 omega
structure HInv (s:GShow) (x:GState) (B:Int) (low high:List Int):Prop where
 l1:low.length=s.nodes.length
 l2:high.length=s.nodes.length
 b1:∀ i:Int,0≤i→i<s.nodes.length→-B≤tm low i∧tm low i≤B
 b2:∀ i:Int,0≤i→i<s.nodes.length→-B≤tm high i∧tm high i≤B
 good:∀ T,Good s x T→∀ i:Int,0≤i→i<s.nodes.length→iP s x i=true→tm low i≤T i∧T i≤tm high i
theorem HInv.mono {s:GShow}{x:GState}{B B':Int}{low high:List Int}(h:HInv s x B low high)(hb:B≤B'):HInv s x B' low high:=
 ⟨h.l1,h.l2,fun i a b=>by have:=h.b1 i a b;omega,fun i a b=>by have:=h.b2 i a b;omega,h.good⟩
theorem HInv.setLow {s:GShow}{x:GState}{B:Int}{low high:List Int}(h:HInv s x B low high){j v:Int}(h0:0≤j)(h1:j<s.nodes.length)(hv:-B≤v∧v≤B)(hg:∀ T,Good s x T→iP s x j=true→v≤T j):HInv s x B (low.set j.toNat v) high:=by
 refine⟨by rw[List.length_set];exact h.l1,h.l2,fun i a b=>?_,h.b2,fun T hT i a b hs=>?_⟩
 ·rw[pt _ _ _ _ h0 (by rw[h.l1];exact h1) a]
  split
  ·exact hv
  exact h.b1 i a b
 rw[pt _ _ _ _ h0 (by rw[h.l1];exact h1) a]
 have:=h.good T hT i a b hs
 split
 ·rename_i e;subst e;exact⟨hg T hT hs,this.2⟩
 exact this
theorem HInv.setHigh {s:GShow}{x:GState}{B:Int}{low high:List Int}(h:HInv s x B low high){j v:Int}(h0:0≤j)(h1:j<s.nodes.length)(hv:-B≤v∧v≤B)(hg:∀ T,Good s x T→iP s x j=true→T j≤v):HInv s x B low (high.set j.toNat v):=by
 refine⟨h.l1,by rw[List.length_set];exact h.l2,h.b1,fun i a b=>?_,fun T hT i a b hs=>?_⟩
 ·rw[pt _ _ _ _ h0 (by rw[h.l2];exact h1) a]
  split
  ·exact hv
  exact h.b2 i a b
 rw[pt _ _ _ _ h0 (by rw[h.l2];exact h1) a]
 have:=h.good T hT i a b hs
 split
 ·rename_i e;subst e;exact⟨this.1,hg T hT hs⟩
 exact this
theorem LA {s:GShow}{x:GState}(hs:bh s)(h:StR s x):∃ low high sure,kW s x=some (low,high,sure)∧HInv s x 11 low high∧sure=(List.range s.nodes.length).map (fun (i:Nat)=>iP s x (i:Int)):=by
 have hln:=h.len
 have h7:=h.right.nodes
 have hn:=h.now
 have hh:=h.right.hor
 let L:=fun i:Nat=>if tm x.times (i:Int)=-1 then x.now else tm x.times (i:Int)
 let Hh:=fun i:Nat=>if tm x.times (i:Int)=-1 then s.horizon else tm x.times (i:Int)
 let S:=fun i:Nat=>iP s x (i:Int)
 have key:ah (ig s.nodes (s.nodes.length:Int) s.ties s.horizon x.now x.times x.values) (((0:Nat):Int),(List.range 0).map L,(List.range 0).map Hh,(List.range 0).map S)=some ((List.range s.nodes.length).map L,(List.range s.nodes.length).map Hh,(List.range s.nodes.length).map S):=by
  refine ay s.nodes.length (fun i=>((i:Int),(List.range i).map L,(List.range i).map Hh,(List.range i).map S)) ?_ ?_
  ·intro i hi
   obtain⟨b,e1,_,e2⟩:=lX hs h (k:=(i:Int)) (by omega) (by omega)
   unfold ig
   try simp only
   rw[ifP,e1]
   simp only[obnd]
   rw[iK (by omega)]
   simp only
   rw[e2]
   simp only
   rw[aA (by simp;omega),aA (by simp;omega),aA (by simp;omega),aA (by simp;omega),aA (by simp;omega),aA (by simp;omega),wr (x:=(i:Int)+1),eu,eu,eu]
   by_cases ht:tm x.times (i:Int)=-1
   ·rw[if_pos ht,show L i=x.now from if_pos ht,show Hh i=s.horizon from if_pos ht];rfl
   rw[if_neg ht,aA (by simp;omega),aA (by simp;omega),aA (by simp;omega),aA (by simp;omega),show L i=tm x.times (i:Int) from if_neg ht,show Hh i=tm x.times (i:Int) from if_neg ht];rfl
  unfold ig
  try simp only
  rw[ifN]
 refine⟨(List.range s.nodes.length).map L,(List.range s.nodes.length).map Hh,(List.range s.nodes.length).map S,?_,?_,rfl⟩
 ·unfold kW
  simp only[List.range_zero,List.map_nil,Int.natCast_zero]at key
  rw[key];rfl
 have tmL:∀ (f:Nat→Int) (i:Int),0≤i→i<s.nodes.length→tm ((List.range s.nodes.length).map f) i=f i.toNat:=by
  intro f i h0 h1
  unfold tm
  rw[List.getElem?_map,List.getElem?_range (show i.toNat<s.nodes.length by omega)];rfl
 refine⟨by simp,by simp,fun i a b=>?_,fun i a b=>?_,fun T hT i a b hs=>?_⟩
 ·rw[tmL L i a b]
  have:=h.all i a b
  show -11≤(if tm x.times ((i.toNat:Nat):Int)=-1 then x.now else tm x.times ((i.toNat:Nat):Int))∧_≤(11:Int)
  rw[show((i.toNat:Nat):Int)=i by omega]
  show -11≤(if tm x.times i=-1 then x.now else tm x.times i)∧(if tm x.times ((i.toNat:Nat):Int)=-1 then x.now else tm x.times ((i.toNat:Nat):Int))≤(11:Int)
  rw[show((i.toNat:Nat):Int)=i by omega]
  split <;> omega
 ·rw[tmL Hh i a b]
  have:=h.all i a b
  show -11≤(if tm x.times ((i.toNat:Nat):Int)=-1 then s.horizon else tm x.times ((i.toNat:Nat):Int))∧(if tm x.times ((i.toNat:Nat):Int)=-1 then s.horizon else tm x.times ((i.toNat:Nat):Int))≤(11:Int)
  rw[show((i.toNat:Nat):Int)=i by omega]
  split <;> omega
 rw[tmL L i a b,tmL Hh i a b]
 show(if tm x.times ((i.toNat:Nat):Int)=-1 then x.now else tm x.times ((i.toNat:Nat):Int))≤T i∧T i≤(if tm x.times ((i.toNat:Nat):Int)=-1 then s.horizon else tm x.times ((i.toNat:Nat):Int))
 rw[show((i.toNat:Nat):Int)=i by omega]
 by_cases ht:tm x.times i=-1
 ·rw[if_pos ht,if_pos ht];exact hT.free i a b hs ht
 rw[if_neg ht,if_neg ht,hT.fix i a b hs ht];omega
theorem LB {s:GShow}{x:GState}(h:StR s x)(r:Int)(sure:List Bool)(hsure:sure=(List.range s.nodes.length).map (fun (i:Nat)=>iP s x (i:Int)))(B:Int)(hB:0≤B∧B≤100000){low high:List Int}(hi:HInv s x B low high) :
  ∃ q,ah (fU r s.ties (s.ties.length:Int) s.nodes s.horizon sure) (0,low,high)=some q∧HInv s x (B+1120) q.1 q.2:=by
 have h14:=h.right.ties
 have getS:∀ k:Int,0≤k→k<s.nodes.length→getI sure k=some (iP s x k):=by
  intro k h0 h1
  have hk:k.toNat<sure.length:=by rw[hsure];simp;omega
  have:=aq hk
  rw[show((k.toNat:Nat):Int)=k by omega]at this
  rw[this]
  congr 1
  subst hsure
  simp only[List.getElem_map,List.getElem_range]
  rw[show((k.toNat:Nat):Int)=k by omega]
 refine br s.ties.length (fun (i:Nat) (st:Int × List Int × List Int)=>st.1=(i:Int)∧HInv s x (B+80*(i:Int)) st.2.1 st.2.2) (fun (q:List Int × List Int)=>HInv s x (B+1120) q.1 q.2) ⟨rfl,hi.mono (by omega)⟩ ?_ ?_
 ·rintro i ⟨a,lo,hg⟩ hlt ⟨rfl,hv⟩
  simp only at hv
  have hT:=h.right.tie _ (List.getElem_mem hlt)
  have hc:B+80*(i:Int)≤200000:=by omega
  left
  unfold fU
  try simp only
  rw[ifP,aq hlt]
  simp only[obnd]
  rw[getS _ hT.f0 hT.f1]
  simp only
  cases hs1:iP s x s.ties[i].from_
  ·rw[if_neg (by simp),wr (x:=(i:Int)+1)]
   exact⟨_,rfl,rfl,hv.mono (by omega)⟩
  rw[if_pos rfl,getS _ hT.t0 hT.t1]
  simp only
  cases hs2:iP s x s.ties[i].to
  ·rw[if_neg (by simp),wr (x:=(i:Int)+1)]
   exact⟨_,rfl,rfl,hv.mono (by omega)⟩
  rw[if_pos rfl]
  have ht:=hT.lo
  have ht2:=hT.hi
  have ht3:=hT.lh
  have fl:=hT.f1
  have tl:=hT.t1
  have c1:=hv.b1 _ hT.f0 hT.f1
  have c2:=hv.b1 _ hT.t0 hT.t1
  have c3:=hv.b2 _ hT.f0 hT.f1
  have c4:=hv.b2 _ hT.t0 hT.t1
  rw[aP hT.t0 (by rw[hv.l1];omega),aP hT.f0 (by rw[hv.l1];omega),aP hT.t0 (by rw[hv.l2];omega),aP hT.f0 (by rw[hv.l2];omega)]
  simp only
  rw[wr (x:=tm lo s.ties[i].from_+s.ties[i].low),wr (x:=tm hg s.ties[i].from_+s.ties[i].high)]
  have v1:=(hv.mono (B':=B+80*(i:Int)+20) (by omega)).setLow (j:=s.ties[i].to) (v:=if tm lo s.ties[i].to<tm lo s.ties[i].from_+s.ties[i].low then tm lo s.ties[i].from_+s.ties[i].low else tm lo s.ties[i].to) hT.t0 hT.t1 (by split <;> omega) (by
   intro T hG hs
   have g1:=hG.tie _ (List.getElem_mem hlt) hs1 hs2
   have g2:=hv.good T hG _ hT.f0 hT.f1 hs1
   have g3:=hv.good T hG _ hT.t0 hT.t1 hs2
   split <;> omega)
  have v2:=v1.setHigh (j:=s.ties[i].to) (v:=if tm hg s.ties[i].from_+s.ties[i].high<tm hg s.ties[i].to then tm hg s.ties[i].from_+s.ties[i].high else tm hg s.ties[i].to) hT.t0 hT.t1 (by split <;> omega) (by
   intro T hG hs
   have g1:=hG.tie _ (List.getElem_mem hlt) hs1 hs2
   have g2:=hv.good T hG _ hT.f0 hT.f1 hs1
   have g3:=hv.good T hG _ hT.t0 hT.t1 hs2
   split <;> omega)
  generalize lo.set s.ties[i].to.toNat (if tm lo s.ties[i].to<tm lo s.ties[i].from_+s.ties[i].low then tm lo s.ties[i].from_+s.ties[i].low else tm lo s.ties[i].to)=lo1 at v2 ⊢
  generalize hg.set s.ties[i].to.toNat (if tm hg s.ties[i].from_+s.ties[i].high<tm hg s.ties[i].to then tm hg s.ties[i].from_+s.ties[i].high else tm hg s.ties[i].to)=hg1 at v2 ⊢
  have d1:=v2.b1 _ hT.f0 hT.f1
  have d2:=v2.b1 _ hT.t0 hT.t1
  have d3:=v2.b2 _ hT.f0 hT.f1
  have d4:=v2.b2 _ hT.t0 hT.t1
  rw[aP hT.f0 (by rw[v2.l1];omega),aP hT.t0 (by rw[v2.l1];omega),aP hT.f0 (by rw[v2.l2];omega),aP hT.t0 (by rw[v2.l2];omega)]
  simp only
  rw[wr (x:=tm lo1 s.ties[i].to - s.ties[i].high),wr (x:=tm hg1 s.ties[i].to - s.ties[i].low),wr (x:=(i:Int)+1)]
  have v3:=(v2.mono (B':=B+80*(i:Int)+40) (by omega)).setLow (j:=s.ties[i].from_) (v:=if tm lo1 s.ties[i].from_<tm lo1 s.ties[i].to - s.ties[i].high then tm lo1 s.ties[i].to - s.ties[i].high else tm lo1 s.ties[i].from_) hT.f0 hT.f1 (by split <;> omega) (by
   intro T hG hs
   have g1:=hG.tie _ (List.getElem_mem hlt) hs1 hs2
   have g2:=v2.good T hG _ hT.f0 hT.f1 hs1
   have g3:=v2.good T hG _ hT.t0 hT.t1 hs2
   split <;> omega)
  have v4:=v3.setHigh (j:=s.ties[i].from_) (v:=if tm hg1 s.ties[i].to - s.ties[i].low<tm hg1 s.ties[i].from_ then tm hg1 s.ties[i].to - s.ties[i].low else tm hg1 s.ties[i].from_) hT.f0 hT.f1 (by split <;> omega) (by
   intro T hG hs
   have g1:=hG.tie _ (List.getElem_mem hlt) hs1 hs2
   have g2:=v2.good T hG _ hT.f0 hT.f1 hs1
   have g3:=v2.good T hG _ hT.t0 hT.t1 hs2
   split <;> omega)
  exact⟨_,rfl,rfl,v4.mono (by omega)⟩
 rintro⟨a,lo,hg⟩ ⟨rfl,hv⟩
 unfold fU
 try simp only
 rw[ifN]
 exact⟨_,rfl,hv.mono (by omega)⟩
theorem LC {s:GShow}{x:GState}(hs:bh s)(hx:aJ s x=true):∃ b,jm s x=some b∧(b=true→win s x=false):=by
 have h:=cA hx
 have h7:=h.right.nodes
 obtain⟨low,high,sure,e1,hi,hsure⟩:=LA hs h
 have getS:∀ k:Nat,k<s.nodes.length→getI sure (k:Int)=some (iP s x (k:Int)):=by
  intro k h1
  have hk:k<sure.length:=by rw[hsure];simp;omega
  rw[aq hk]
  congr 1
  subst hsure
  simp only[List.getElem_map,List.getElem_range]
 unfold jm
 rw[e1]
 simp only[obnd]
 have k3:=br (body:=fV s.nodes s.ties s.horizon sure) (s0:=((0:Int),low,high)) s.nodes.length (fun i st=>st.1=(i:Int)∧HInv s x (11+1120*(i:Int)) st.2.1 st.2.2) (fun q=>HInv s x 100000 q.1 q.2) ⟨rfl,hi.mono (by omega)⟩ ?_ ?_
 ·obtain⟨q,e3,hq⟩:=k3
  rw[e3]
  simp only
  obtain⟨lo,hg⟩:=q
  simp only at hq ⊢
  have k4:=br (body:=fW (lo.length:Int) lo hg sure) (s0:=(0:Int)) lo.length (fun i st=>st=(i:Int)) (fun r=>r=.inl ()∨(r=.inr true∧∃ i:Int,0≤i∧i<s.nodes.length∧iP s x i=true∧tm hg i<tm lo i)) rfl ?_ ?_
  ·obtain⟨r,e4,hr⟩:=k4
   rw[e4]
   simp only
   rcases hr with rfl|⟨rfl,i,i0,i1,i2,i3⟩
   ·exact⟨false,rfl,fun h=>by cases h⟩
   refine⟨true,rfl,fun _=>?_⟩
   cases hw:win s x
   ·rfl
   obtain⟨T,hT⟩:=QV hx hw
   have:=hq.good T hT i i0 i1 i2
   omega
  ·rintro i a hlt rfl
   have hl1:=hq.l1
   unfold fW
   try simp only
   rw[ifP,getS i (by omega)]
   simp only[obnd]
   cases hsu:iP s x (i:Int)
   ·rw[if_neg (by simp),wr]
    exact .inl ⟨_,rfl,rfl⟩
   rw[if_pos rfl,iK (by omega),iK (by rw[hq.l2];omega)]
   simp only
   by_cases hc:tm hg (i:Int)<tm lo (i:Int)
   ·rw[if_pos hc]
    exact .inr ⟨_,rfl,.inr ⟨rfl,(i:Int),by omega,by omega,hsu,hc⟩⟩
   rw[if_neg hc,wr]
   exact .inl ⟨_,rfl,rfl⟩
  rintro a rfl
  unfold fW
  try simp only
  rw[ifN]
  exact⟨_,rfl,.inl rfl⟩
 ·rintro i ⟨a,lo,hg⟩ hlt ⟨rfl,hv⟩
  simp only at hv
  obtain⟨q,e2,hq⟩:=LB h (i:Int) sure hsure (11+1120*(i:Int)) (by omega) hv
  unfold fV
  try simp only
  rw[ifP,e2]
  simp only[obnd]
  rw[wr]
  exact .inl ⟨_,rfl,rfl,hq.mono (by omega)⟩
 rintro⟨a,lo,hg⟩ ⟨rfl,hv⟩
 unfold fV
 try simp only
 rw[ifN]
 exact⟨_,rfl,hv.mono (by omega)⟩
end Go.Proofs.Qh
