/- Sort,Concat,members: what they come to. Own work. -/
import Derived.Test.YtpkcmjnlnbddbaaGreatDoorXcP24
set_option linter.all false
set_option maxRecDepth 100000
namespace Go.Proofs.Qc
open Go
def Asc (l:List Int):Prop:=l.Pairwise (fun a b=>a<b)
theorem EE:∀ {a b:List Int},Asc a→Asc b→(∀ x,x∈a↔x∈b)→a=b
 | [],[],_,_,_=>rfl
 | [],y::b,_,_,h=>absurd ((h y).2 (by simp)) (by simp)
 | x::a,[],_,_,h=>absurd ((h x).1 (by simp)) (by simp)
 | x::a,y::b,ha,hb,h=>by
  have ha':=List.pairwise_cons.1 ha
  have hb':=List.pairwise_cons.1 hb
  have hxy:x=y:=by
   have h1:=(h x).1 (by simp)
   have h2:=(h y).2 (by simp)
   rcases List.mem_cons.1 h1 with h1|h1
   ·exact h1
   ·rcases List.mem_cons.1 h2 with h2|h2
    ·exact h2.symm
    ·have:=hb'.1 x h1
     have:=ha'.1 y h2
     omega
  subst hxy
  rw[EE ha'.2 hb'.2 ?_]
  intro z
  have:=h z
  simp only[List.mem_cons]at this
  constructor
  ·intro hz
   rcases this.1 (.inr hz) with h1|h1
   ·have:=ha'.1 z hz;omega
   ·exact h1
  ·intro hz
   rcases this.2 (.inr hz) with h1|h1
   ·have:=hb'.1 z hz;omega
   ·exact h1
theorem ww {l:List Int}{x:Int}(h:Asc l)(hx:∀ y,y∈l→y<x):Asc (l++[x]):=by
 unfold Asc
 rw[List.pairwise_append]
 exact⟨h,List.pairwise_singleton _ _,fun a ha b hb=>by rw[List.mem_singleton.1 hb];exact hx a ha⟩
theorem FM {l:List Int}(h:l.Pairwise (fun a b=>a≤b))(hn:l.Nodup):Asc l:=by
 unfold Asc List.Nodup at *
 have:=h.and hn
 refine this.imp ?_
 intro a b hab
 have:=hab.1
 have:=hab.2
 omega
theorem Asc.nodup {l:List Int}(h:Asc l):l.Nodup:=by
 unfold List.Nodup
 exact h.imp (fun hab=>by omega)
theorem vb {α:Type}[DecidableEq α]:∀ {l r:List α},l.Nodup→(∀ x,x∈l→x∈r)→l.length≤r.length
 | [],_,_,_=>by simp
 | x::l,r,hn,h=>by
  have hn':=List.nodup_cons.1 hn
  have hx:=h x (by simp)
  have:=vb (l:=l) (r:=r.erase x) hn'.2 (fun y hy=>by
   rw[List.mem_erase_of_ne (by intro e;subst e;exact hn'.1 hy)]
   exact h y (by simp[hy]))
  rw[List.length_erase_of_mem hx]at this
  have:0<r.length:=List.length_pos_of_mem hx
  simp only[List.length_cons]
  omega
theorem EF {α:Type}(A:List α)(b:α)(C:List α):getI (A++b::C) ((A.length:Nat):Int)=some b:=by
 rw[ao (by simp)]
 simp
theorem Ni {α:Type}(A:List α)(b z:α)(C:List α):(A++b::C).set A.length z=A++z::C:=by
 rw[List.set_append_right _ _ (Nat.le_refl _),Nat.sub_self];rfl
theorem KD (x y:Int):mw x y=some (decide (x<y)):=by
 unfold mw lq
 simp[obnd]
theorem LL (b i x:Int):∀ (n:Nat) (P:List Int),P.length=n→n≤1000→∀ Q:List Int,∃ P1 P2,P=P1++P2∧(∀ y,y∈P2→x<y)∧(∀ A y,P1=A++[y]→y≤x) ∧
  aj (aO 0 b i) (((P.length:Nat):Int),P++x::Q)=some (P1++x::P2++Q):=by
 intro n
 induction n with
 | zero=>
  intro P hP _ Q
  obtain rfl:=List.length_eq_zero_iff.1 hP
  refine⟨[],[],rfl,by simp,fun A y h=>by simp at h,?_⟩
  rw[ba]
  unfold aO
  simp
 | succ n ih=>
  intro P hP hn Q
  rcases List.eq_nil_or_concat P with rfl|⟨A,y,rfl⟩
  ·simp at hP
  rw[List.concat_eq_append]at *
  have hA:A.length=n:=by simpa using hP
  rw[ba]
  have e1:getI (A++[y]++x::Q) (((A++[y]).length:Nat):Int)=some x:=EF _ _ _
  have e2:(((A++[y]).length:Nat):Int) - 1=((A.length:Nat):Int):=by simp
  have e3:getI (A++[y]++x::Q) ((A.length:Nat):Int)=some y:=by
   rw[List.append_assoc];exact EF _ _ _
  have e4:(A++[y]++x::Q).set (A++[y]).length y=A++y::(y::Q):=by
   rw[Ni];simp
  by_cases hxy:x<y
  ·obtain⟨P1,P2,h1,h2,h3,h4⟩:=ih A hA (by omega) (y::Q)
   refine⟨P1,P2++[y],by rw[h1];simp,?_,h3,?_⟩
   ·intro z hz
    rcases List.mem_append.1 hz with hz|hz
    ·exact h2 z hz
    ·rw[List.mem_singleton.1 hz];exact hxy
   ·have step:aO 0 b i (((A++[y]).length:Nat),A++[y]++x::Q)=some (.next (((A.length:Nat):Int),A++x::(y::Q))):=by
     unfold aO
     simp only
     rw[if_pos (by rw[List.length_append,List.length_singleton];omega),e1]
     simp only[obnd]
     rw[wr (x:=(((A++[y]).length:Nat):Int) - 1) (by rw[List.length_append,List.length_singleton];omega) (by rw[List.length_append,List.length_singleton];omega),e2,e3]
     simp only
     rw[KD]
     simp only
     rw[if_pos (decide_eq_true hxy),Int.toNat_natCast,e4,EF]
     simp only
     rw[Int.toNat_natCast,Ni]
    rw[step]
    simp only
    rw[h4]
    simp
  ·refine⟨A++[y],[],by simp,by simp,?_,?_⟩
   ·intro B z hz
    have:=List.append_inj_right' hz rfl
    simp at this
    omega
   ·have step:aO 0 b i (((A++[y]).length:Nat),A++[y]++x::Q)=some (.done (A++[y]++x::Q)):=by
     unfold aO
     simp only
     rw[if_pos (by rw[List.length_append,List.length_singleton];omega),e1]
     simp only[obnd]
     rw[wr (x:=(((A++[y]).length:Nat):Int) - 1) (by rw[List.length_append,List.length_singleton];omega) (by rw[List.length_append,List.length_singleton];omega),e2,e3]
     simp only
     rw[KD]
     simp only
     rw[if_neg (by rw[decide_eq_false hxy];simp)]
    rw[step]
    simp
theorem Ix (l:List Int)(h:l.length≤12):∃ r,bX l 0 ((l.length:Nat):Int)=some r∧r.Perm l∧r.Pairwise (fun a b=>a≤b):=by
 unfold bX
 have key:∃ r,aj (bo 0 ((l.length:Nat):Int)) (1,l)=some r∧(r.Perm l∧r.Pairwise (fun a b=>a≤b)):=by
  by_cases h0:l.length=0
  ·obtain rfl:=List.length_eq_zero_iff.1 h0
   refine⟨[],?_,List.Perm.refl _,List.Pairwise.nil⟩
   rw[ba]
   unfold bo
   simp
  refine bM (l.length - 1) (fun i st=>st.1=(i:Int)+1∧st.2.Perm l∧(st.2.take (i+1)).Pairwise (fun a b=>a≤b)) _ ⟨rfl,List.Perm.refl _,?_⟩ ?_ ?_
  ·cases l with
   | nil=>simp
   | cons x l=>simp
  ·rintro i ⟨j,L⟩ hi ⟨hj,hp,hs⟩
   simp only at hj hp hs
   subst hj
   have hL:=hp.length_eq
   have hd:L.drop (i+1)=L[i+1]'(by omega)::L.drop (i+2):=List.drop_eq_getElem_cons (by omega)
   have hsplit:L=L.take (i+1)++L[i+1]'(by omega)::L.drop (i+2):=by rw[← hd,List.take_append_drop]
   generalize hx:L[i+1]'(by omega)=x at hd hsplit
   generalize hA:L.take (i+1)=A at hs hsplit
   generalize hC:L.drop (i+2)=C at hsplit
   have hAl:A.length=i+1:=by rw[← hA,List.length_take];omega
   obtain⟨P1,P2,h1,h2,h3,h4⟩:=LL ((l.length:Nat):Int) ((i:Int)+1) x A.length A rfl (by omega) C
   left
   refine⟨((i:Int)+1+1,P1++x::P2++C),?_,?_,?_,?_⟩
   ·unfold bo
    simp only
    rw[if_pos (by omega),hsplit,show(i:Int)+1=((A.length:Nat):Int) by omega]at *
    rw[h4]
    simp only[obnd]
    rw[wr (by omega) (by omega)]
   ·simp only;omega
   ·refine List.Perm.trans ?_ hp
    rw[hsplit,h1]
    simp only[List.append_assoc,List.cons_append]
    refine List.Perm.append_left P1 ?_
    exact(List.perm_middle (a:=x) (l₁:=P2) (l₂:=C)).symm
   ·simp only
    have hlen:(P1++x::P2).length=i+1+1:=by
     rw[h1]at hAl
     simp at hAl ⊢
     omega
    rw[← hlen,List.take_left]
    rw[h1]at hs
    obtain⟨s1,s2,s3⟩:=List.pairwise_append.1 hs
    rw[List.pairwise_append]
    refine⟨s1,List.pairwise_cons.2 ⟨fun y hy=>Int.le_of_lt (h2 y hy),s2⟩,?_⟩
    intro a ha b hb
    have hax:a≤x:=by
     rcases List.eq_nil_or_concat P1 with rfl|⟨B,y,rfl⟩
     ·simp at ha
     ·rw[List.concat_eq_append]at *
      have hy:=h3 B y rfl
      rcases List.mem_append.1 ha with ha|ha
      ·have:=(List.pairwise_append.1 s1).2.2 a ha y (by simp)
       omega
      ·rw[List.mem_singleton.1 ha];exact hy
    rcases List.mem_cons.1 hb with rfl|hb
    ·exact hax
    ·have:=h2 b hb;omega
  ·rintro⟨j,L⟩ ⟨hj,hp,hs⟩
   simp only at hj hp hs
   subst hj
   have hL:=hp.length_eq
   unfold bo
   simp only
   rw[if_neg (by omega)]
   refine⟨_,rfl,hp,?_⟩
   rw[List.take_of_length_le (by omega)]at hs
   exact hs
 obtain⟨r,e,hr⟩:=key
 rw[show IntKind.wrap .i64 (0+1)=1 from wr (by omega) (by omega),e]
 exact⟨r,rfl,hr⟩
theorem Iy:∀ n:Nat,n<13→(tX (IntKind.wrap .u64 (n:Int))).isSome=true:=by decide +kernel
theorem KE (l:List Int)(h:l.length≤12):∃ r,cC l=some r∧r.Perm l∧r.Pairwise (fun a b=>a≤b):=by
 unfold cC
 obtain⟨b,hb⟩:=Option.isSome_iff_exists.1 (Iy l.length (by omega))
 rw[hb]
 simp only[obnd]
 obtain⟨r,e,hr⟩:=Ix l h
 have:cP l 0 ((l.length:Nat):Int) b=some r:=by
  unfold cP
  rw[ba]
  unfold ga
  rw[wr (by omega) (by omega),if_pos (by omega),e]
  rfl
 rw[this]
 exact⟨r,rfl,hr⟩
theorem Qn (n:Nat)(h:n≤1048576):jE (n:Int)=some (List.replicate n 0,0):=by
 unfold jE
 rw[if_neg (by omega),wr (x:=(0:Int) - 0) (by omega) (by omega),wr (x:=(n:Int) - (0 - 0)) (by omega) (by omega)]
 by_cases h0:0<n
 ·rw[if_pos (by omega),ai (by omega),ai (by omega),ai (by omega),show((n:Int) - (0 - 0)).toNat=n by omega]
 ·obtain rfl:n=0:=by omega
  rw[if_neg (by omega)];rfl
theorem FN (xs:List (List Int))(i:Nat)(hi:i<xs.length):(xs.take (i+1)).flatten=(xs.take i).flatten++xs[i]:=by
 rw[List.take_succ_eq_append_getElem hi,List.flatten_append]
 simp
theorem KF (xs:List (List Int))(i:Nat):(xs.take i).flatten.length≤xs.flatten.length:=by
 have:xs.flatten=(xs.take i).flatten++(xs.drop i).flatten:=by rw[← List.flatten_append,List.take_append_drop]
 rw[this,List.length_append];omega
theorem Nj (xs:List (List Int))(h:xs.length≤1048576)(hf:xs.flatten.length≤1048576):gX xs=some xs.flatten:=by
 unfold gX
 have k1:aj (eP xs ((xs.length:Nat):Int)) ((((xs.take 0).flatten.length:Nat):Int),((0:Nat):Int))=some ((xs.flatten.length:Nat):Int):=by
  refine aE xs.length (fun i=>((((xs.take i).flatten.length:Nat):Int),(i:Int))) ?_ ?_
  ·intro i hi
   have e:=FN xs i hi
   have l1:=KF xs (i+1)
   have e':=congrArg List.length e
   rw[List.length_append]at e'
   unfold eP
   simp only
   rw[if_pos (by omega),ao hi]
   simp only[obnd]
   rw[wr (x:=(((xs.take i).flatten.length:Nat):Int)+((xs[i].length:Nat):Int)) (by omega) (by omega),if_neg (by omega),wr (x:=(i:Int)+1) (by omega) (by omega)]
   congr 3
   omega
  ·unfold eP
   simp only
   rw[if_neg (by omega),List.take_length]
 simp only[List.take_zero,List.flatten_nil,List.length_nil,Int.natCast_zero]at k1
 rw[k1]
 simp only[obnd]
 rw[Qn _ hf]
 simp only
 have k2:∃ q,aj (eQ xs ((xs.length:Nat):Int)) (0,0,List.replicate xs.flatten.length 0)=some q∧(q.1≤q.2.length∧q.2.length≤xs.flatten.length∧q.2.take q.1=xs.flatten):=by
  refine bM xs.length (fun i st=>st.1=(xs.take i).flatten.length∧st.2.1=(i:Int)∧st.1≤st.2.2.length∧st.2.2.length≤xs.flatten.length∧st.2.2.take st.1=(xs.take i).flatten) _ ⟨by simp,rfl,by simp,by simp,by simp⟩ ?_ ?_
  ·rintro i ⟨n,j,L⟩ hi ⟨hn,hj,hl,hz,ht⟩
   simp only at hn hj hl hz ht
   subst hj
   have e:=FN xs i hi
   have l1:=KF xs (i+1)
   have e':=congrArg List.length e
   rw[List.length_append]at e'
   unfold eQ
   simp only
   rw[if_pos (by omega),ao hi,wr (x:=(i:Int)+1) (by omega) (by omega)]
   simp only[obnd]
   left
   by_cases h1:n=L.length
   ·rw[if_pos h1,ai (by omega),ai (by omega)]
    refine⟨_,rfl,by omega,rfl,by simp;omega,by simp only[List.length_append];omega,?_⟩
    rw[h1,List.take_length]at ht
    rw[List.take_of_length_le (by simp;omega),ht,e]
   ·rw[if_neg h1,ai (by omega)]
    by_cases h2:xs[i].length=0
    ·rw[if_pos h2]
     have h3:=List.length_eq_zero_iff.1 h2
     refine⟨_,rfl,by omega,rfl,hl,hz,?_⟩
     rw[e,h3,List.append_nil];exact ht
    ·rw[if_neg h2,ai (by omega),ai (by omega)]
     refine⟨_,rfl,by omega,rfl,by simp;omega,by simp only[List.length_append,List.length_take];omega,?_⟩
     rw[ht,e,List.take_of_length_le (by rw[List.length_append];omega)]
  ·rintro⟨n,j,L⟩ ⟨hn,hj,hl,hz,ht⟩
   simp only at hn hj hl hz ht
   subst hj
   unfold eQ
   simp only
   rw[if_neg (by omega)]
   rw[List.take_length]at ht
   exact⟨_,rfl,hl,hz,ht⟩
 obtain⟨q,e,hl,hz,hq⟩:=k2
 have hq':=congrArg List.length hq
 rw[List.length_take]at hq'
 rw[e]
 simp only
 rw[ai hl,ai (by omega),hq]
def cz (set:Int)(i:Nat):Bool:=decide ((IntKind.wrap .i64 (((BitVec.ofInt (IntKind.bits .i64) (Int.fdiv set (2^(min i 64))) &&& BitVec.ofInt (IntKind.bits .i64) 1).toNat:Nat):Int))=1)
def sel (p:Nat→Bool)(l:List Int)(n:Nat):List Int:=((List.range n).filter p).map (fun j=>l.getD j 0)
theorem EG {p:Nat→Bool}{l:List Int}{n:Nat}(h:p n=true):sel p l (n+1)=sel p l n++[l.getD n 0]:=by
 unfold sel
 rw[List.range_succ,List.filter_append,List.map_append]
 simp[h]
theorem Iz {p:Nat→Bool}{l:List Int}{n:Nat}(h:p n=false):sel p l (n+1)=sel p l n:=by
 unfold sel
 rw[List.range_succ,List.filter_append,List.map_append]
 simp[h]
theorem vP (p:Nat→Bool)(l:List Int)(n:Nat):(sel p l n).length≤n:=by
 unfold sel
 rw[List.length_map]
 have:=List.length_filter_le p (List.range n)
 simpa using this
theorem KG {p:Nat→Bool}{l:List Int}{n:Nat}{x:Int}(h:x∈sel p l n):∃ i,i<n∧p i=true∧x=l.getD i 0:=by
 unfold sel at h
 simp only[List.mem_map,List.mem_filter,List.mem_range]at h
 obtain⟨i,⟨h1,h2⟩,rfl⟩:=h
 exact⟨i,h1,h2,rfl⟩
theorem IA {p:Nat→Bool}{l:List Int}{x:Int}(h:x∈sel p l l.length):x∈l:=by
 obtain⟨i,hi,_,rfl⟩:=KG h
 rw[List.getD_eq_getElem?_getD,List.getElem?_eq_getElem hi]
 exact List.getElem_mem hi
theorem EH {p:Nat→Bool}{l:List Int}(h:Asc l):∀ n,n≤l.length→Asc (sel p l n)
 | 0,_=>List.Pairwise.nil
 | n+1,hn=>by
  have ih:=EH (p:=p) h n (by omega)
  cases hp:p n
  ·rw[Iz hp];exact ih
  ·rw[EG hp]
   refine ww ih ?_
   intro y hy
   obtain⟨i,hi,_,rfl⟩:=KG hy
   rw[List.getD_eq_getElem?_getD,List.getElem?_eq_getElem (by omega),List.getD_eq_getElem?_getD,List.getElem?_eq_getElem (by omega)]
   exact List.pairwise_iff_getElem.1 h i n (by omega) (by omega) hi
theorem Dn (l:List Int)(n:Int)(h:l.length≤1000):ka l n=some (sel (cz n) l l.length):=by
 unfold ka
 have key:aj (jD n l ((l.length:Nat):Int)) (((0:Nat):Int),sel (cz n) l 0)=some (sel (cz n) l l.length):=by
  refine aE l.length (fun i=>((i:Int),sel (cz n) l i)) ?_ ?_
  ·intro i hi
   have hs:=vP (cz n) l i
   unfold jD
   simp only
   rw[if_pos (by omega),aR hi]
   simp only[obnd]
   rw[ai (by omega),wr (x:=(i:Int)+1) (by omega) (by omega),Int.toNat_natCast]
   cases hb:cz n i
   ·rw[Iz hb]
    unfold cz at hb
    rw[if_neg (of_decide_eq_false hb)];rfl
   ·rw[EG hb]
    unfold cz at hb
    rw[if_pos (of_decide_eq_true hb),ai (by omega),ai (by omega)];rfl
  ·unfold jD
   simp only
   rw[if_neg (by omega)]
 rw[show(0:Int)=((0:Nat):Int) from rfl,show([]:List Int)=sel (cz n) l 0 from rfl,key];rfl
theorem wru {n:Nat}(h:n≤1000000):IntKind.wrap .u64 (n:Int)=n:=by
 show(n:Int) % 18446744073709551616=n
 omega
theorem rZ (l:List Int)(n:Int)(h:l.length≤1000):fE l n=some (sel (cz n) l l.length):=by
 unfold fE
 have key:aj (jz n l ((l.length:Nat):Int)) (((0:Nat):Int),sel (cz n) l 0)=some (sel (cz n) l l.length):=by
  refine aE l.length (fun i=>((i:Int),sel (cz n) l i)) ?_ ?_
  ·intro i hi
   have hs:=vP (cz n) l i
   unfold jz
   simp only
   rw[if_pos (by omega),aR hi,wru (by omega)]
   simp only[obnd]
   rw[ai (by omega),wr (x:=(i:Int)+1) (by omega) (by omega),Int.toNat_natCast]
   cases hb:cz n i
   ·rw[Iz hb]
    unfold cz at hb
    rw[if_neg (of_decide_eq_false hb)];rfl
   ·rw[EG hb]
    unfold cz at hb
    rw[if_pos (of_decide_eq_true hb),ai (by omega),ai (by omega)];rfl
  ·unfold jz
   simp only
   rw[if_neg (by omega)]
 rw[show(0:Int)=((0:Nat):Int) from rfl,show([]:List Int)=sel (cz n) l 0 from rfl,key];rfl
noncomputable def mrg (a b:List Int):List Int:=(cC (a++b)).getD []
theorem FO {a b:List Int}(ha:Asc a)(hb:Asc b)(hd:∀ x,x∈a→x∈b→False)(h:a.length+b.length≤12) :
  cC (a++b)=some (mrg a b)∧Asc (mrg a b)∧(∀ x,x∈mrg a b↔x∈a∨x∈b)∧(mrg a b).length=a.length+b.length:=by
 obtain⟨r,e,hp,hs⟩:=KE (a++b) (by simpa using h)
 have hm:mrg a b=r:=by unfold mrg;rw[e];rfl
 rw[hm]
 refine⟨e,FM hs ?_,?_,by rw[hp.length_eq,List.length_append]⟩
 ·refine hp.nodup_iff.2 ?_
  rw[List.nodup_append]
  exact⟨ha.nodup,hb.nodup,fun x hx y hy he=>hd x hx (he ▸ hy)⟩
 ·intro x
  rw[hp.mem_iff,List.mem_append]
theorem JV {a b:List Int}(ha:Asc a)(hb:Asc b)(hd:∀ x,x∈a→x∈b→False)(h:a.length+b.length≤12):fY a b=some (mrg a b):=by
 obtain⟨_,m1,m2,_⟩:=FO ha hb hd h
 unfold fY
 have key:∃ r,aj (iP a b) (0,0,[])=some r∧(Asc r∧∀ x,x∈r↔x∈a∨x∈b):=by
  refine bM (a.length+b.length) (fun n st=>∃ i k:Nat,st.1=(i:Int)∧st.2.1=(k:Int)∧i+k=n∧i≤a.length∧k≤b.length∧st.2.2.length=n∧Asc st.2.2∧(∀ x,x∈st.2.2↔x∈a.take i∨x∈b.take k) ∧
   (∀ x,x∈st.2.2→(∀ hi:i<a.length,x<a[i])∧(∀ hk:k<b.length,x<b[k]))) (fun r=>Asc r∧∀ x,x∈r↔x∈a∨x∈b) ?_ ?_ ?_
  ·exact⟨0,0,rfl,rfl,rfl,Nat.zero_le _,Nat.zero_le _,rfl,List.Pairwise.nil,by simp,by simp⟩
  ·rintro n ⟨i',k',out⟩ hn ⟨i,k,h1,h2,h3,h4,h5,h6,h7,h8,h9⟩
   simp only at h1 h2 h6 h7 h8 h9
   subst h1 h2
   left
   have takeA:∀ hi:i<a.length,(∀ hk:k<b.length,a[i]<b[k])→∃ s',(some (Step.next ((i:Int)+1,(k:Int),out++[a[i]])):Option (Step (Int × Int × List Int) (List Int)))=some (.next s')∧∃ i2 k2:Nat,s'.1=(i2:Int)∧s'.2.1=(k2:Int)∧i2+k2=n+1∧i2≤a.length∧k2≤b.length∧s'.2.2.length=n+1∧Asc s'.2.2∧(∀ x,x∈s'.2.2↔x∈a.take i2∨x∈b.take k2) ∧
     (∀ x,x∈s'.2.2→(∀ hi:i2<a.length,x<a[i2])∧(∀ hk:k2<b.length,x<b[k2])):=by
    intro hi hlt
    refine⟨_,rfl,i+1,k,by simp,rfl,by omega,hi,h5,by simp[h6],ww h7 (fun y hy=>(h9 y hy).1 hi),?_,?_⟩
    ·intro x
     rw[List.take_succ_eq_append_getElem hi]
     simp only[List.mem_append,List.mem_singleton,h8]
     constructor
     ·rintro((hx|hx)|hx)
      ·exact .inl (.inl hx)
      ·exact .inr hx
      ·exact .inl (.inr hx)
     ·rintro((hx|hx)|hx)
      ·exact .inl (.inl hx)
      ·exact .inr hx
      ·exact .inl (.inr hx)
    ·intro x hx
     rcases List.mem_append.1 hx with hx|hx
     ·refine⟨fun hi2=>?_,fun hk=>(h9 x hx).2 hk⟩
      have:=(h9 x hx).1 hi
      have:=List.pairwise_iff_getElem.1 ha i (i+1) hi hi2 (by omega)
      omega
     ·rw[List.mem_singleton.1 hx]
      exact⟨fun hi2=>List.pairwise_iff_getElem.1 ha i (i+1) hi hi2 (by omega),fun hk=>hlt hk⟩
   have takeB:∀ hk:k<b.length,(∀ hi:i<a.length,b[k]<a[i])→∃ s',(some (Step.next ((i:Int),(k:Int)+1,out++[b[k]])):Option (Step (Int × Int × List Int) (List Int)))=some (.next s')∧∃ i2 k2:Nat,s'.1=(i2:Int)∧s'.2.1=(k2:Int)∧i2+k2=n+1∧i2≤a.length∧k2≤b.length∧s'.2.2.length=n+1∧Asc s'.2.2∧(∀ x,x∈s'.2.2↔x∈a.take i2∨x∈b.take k2) ∧
     (∀ x,x∈s'.2.2→(∀ hi:i2<a.length,x<a[i2])∧(∀ hk:k2<b.length,x<b[k2])):=by
    intro hk hlt
    refine⟨_,rfl,i,k+1,rfl,by simp,by omega,h4,hk,by simp[h6],ww h7 (fun y hy=>(h9 y hy).2 hk),?_,?_⟩
    ·intro x
     rw[List.take_succ_eq_append_getElem hk]
     simp only[List.mem_append,List.mem_singleton,h8]
     constructor
     ·rintro((hx|hx)|hx)
      ·exact .inl hx
      ·exact .inr (.inl hx)
      ·exact .inr (.inr hx)
     ·rintro(hx|hx|hx)
      ·exact .inl (.inl hx)
      ·exact .inl (.inr hx)
      ·exact .inr hx
    ·intro x hx
     rcases List.mem_append.1 hx with hx|hx
     ·refine⟨fun hi=>(h9 x hx).1 hi,fun hk2=>?_⟩
      have:=(h9 x hx).2 hk
      have:=List.pairwise_iff_getElem.1 hb k (k+1) hk hk2 (by omega)
      omega
     ·rw[List.mem_singleton.1 hx]
      exact⟨fun hi=>hlt hi,fun hk2=>List.pairwise_iff_getElem.1 hb k (k+1) hk hk2 (by omega)⟩
   unfold iP
   simp only
   have c1:(out.length+1)*8≤140737488355328:=by omega
   have c2:out.length+1≤9223372036854775807:=by omega
   simp only[ai c1,ai c2]
   rw[wr (x:=(i:Int)+1) (by omega) (by omega),wr (x:=(k:Int)+1) (by omega) (by omega)]
   by_cases hi:i<a.length
   ·rw[if_pos (by omega)]
    by_cases hk:k<b.length
    ·rw[if_neg (by omega),ao hi,ao hk]
     simp only[obnd]
     by_cases hlt:a[i]<b[k]
     ·rw[if_pos hlt];exact takeA hi (fun _=>hlt)
     ·rw[if_neg hlt]
      refine takeB hk (fun _=>?_)
      have:a[i]≠b[k]:=fun e=>hd a[i] (List.getElem_mem hi) (e ▸ List.getElem_mem hk)
      omega
    ·rw[if_pos (by omega),ao hi]
     simp only[obnd]
     exact takeA hi (fun hk'=>absurd hk' hk)
   ·have hk:k<b.length:=by omega
    rw[if_neg (by omega),if_pos (by omega),if_neg (by omega),ao hk]
    simp only[obnd]
    exact takeB hk (fun hi'=>absurd hi' hi)
  ·rintro⟨i',k',out⟩ ⟨i,k,h1,h2,h3,h4,h5,h6,h7,h8,h9⟩
   simp only at h1 h2 h6 h7 h8 h9
   subst h1 h2
   obtain rfl:i=a.length:=by omega
   obtain rfl:k=b.length:=by omega
   unfold iP
   simp only
   rw[if_neg (by omega),if_neg (by omega)]
   refine⟨_,rfl,h7,?_⟩
   simpa using h8
 obtain⟨r,e,r1,r2⟩:=key
 rw[e]
 simp only[obnd]
 rw[EE r1 m1 (fun x=>by rw[r2,m2])]
end Go.Proofs.Qc
set_option maxRecDepth 100000
namespace Go.Proofs.Qc
open Go
structure VK (s:GShow) (i:Nat) (t:GTie):Prop where
 low:1≤t.low
 t0:t.to≠0
 watch:∀ b,s.nodes[t.to.toNat]?=some b→b.watch=0
 one:∀ j (hj:j<s.ties.length),j<i→s.ties[j].free=true→s.ties[j].to≠t.to
theorem pU {s:GShow}(h:aF s=true){i:Nat}(hi:i<s.ties.length)(hf:s.ties[i].free=true):VK s i s.ties[i]:=by
 have hR:=bC h
 have hT:=hR.tie _ (List.getElem_mem hi)
 unfold aF at h
 simp only[Bool.and_eq_true,decide_eq_true_eq]at h
 have hp:=h.1.1.1.2 i hi
 rw[zD hi,Bool.and_eq_true]at hp
 have hF:=hp.2
 unfold sR at hF
 rw[hf]at hF
 simp only[Bool.not_true,Bool.false_or,Bool.and_eq_true,decide_eq_true_eq]at hF
 obtain⟨⟨⟨h1,h2⟩,h3⟩,h4⟩:=hF
 have a1:=hT.t1
 have a2:=hT.f1
 have b1:s.nodes[s.ties[i].to.toNat]?=some (s.nodes[s.ties[i].to.toNat]'(by have:=hT.t0;omega)):=List.getElem?_eq_getElem _
 have b2:s.nodes[s.ties[i].from_.toNat]?=some (s.nodes[s.ties[i].from_.toNat]'(by have:=hT.f0;omega)):=List.getElem?_eq_getElem _
 rw[b1,b2]at h3
 simp only[decide_eq_true_eq]at h3
 refine⟨h1,h2,?_,?_⟩
 ·intro b hb
  rw[b1]at hb
  cases hb
  exact h3.1
 ·intro j hj hji hfj he
  rw[Bool.not_eq_true',List.any_eq_false]at h4
  refine h4 s.ties[j] ?_ (by rw[hfj,decide_eq_true he];rfl)
  exact List.mem_take_iff_getElem.2 ⟨j,by omega,rfl⟩
theorem sa (p:Nat→Bool):∀ n,Asc (aX p n)
 | 0=>List.Pairwise.nil
 | n+1=>by
  cases hp:p n
  ·rw[cd hp];exact sa p n
  ·rw[gh hp]
   refine ww (sa p n) ?_
   intro y hy
   obtain⟨i,hi,_,rfl⟩:=ly.1 hy
   omega
theorem Bl (s:GShow)(x:GState):Asc (actL s x):=sa _ _
theorem uD {s:GShow}{x:GState}{k:Int}(h:k∈actL s x):∃ i,∃ hi:i<s.ties.length,k=(i:Int)∧s.ties[i].free=true∧tm x.times s.ties[i].from_≠-1∧tm x.times s.ties[i].to=-1:=by
 obtain⟨i,hi,hp,rfl⟩:=ly.1 h
 unfold mY at hp
 rw[List.getElem?_eq_getElem hi]at hp
 simp only[Option.any_some]at hp
 unfold actT at hp
 simp only[Bool.and_eq_true,decide_eq_true_eq]at hp
 exact⟨i,hi,rfl,hp.1,hp.2.1,hp.2.2⟩
theorem IB {s:GShow}(h:aF s=true){i j:Nat}(hi:i<s.ties.length)(hj:j<s.ties.length)(hf:s.ties[i].free=true)(hg:s.ties[j].free=true)(he:s.ties[i].to=s.ties[j].to):i=j:=by
 rcases Nat.lt_trichotomy i j with hlt|he'|hlt
 ·exact absurd he ((pU h hj hg).one i hi hlt hf)
 ·exact he'
 ·exact absurd he.symm ((pU h hi hf).one j hj hlt hg)
theorem ug {s:GShow}(h:aF s=true)(x:GState):(actL s x).length≤6:=by
 have hR:=bC h
 have hn:=hR.nodes
 have hnd:((actL s x).map (fun k=>(aK s k).to)).Nodup:=by
  unfold List.Nodup
  rw[List.pairwise_map]
  refine List.Pairwise.imp_of_mem ?_ (Bl s x)
  intro a b ha hb hab he
  obtain⟨i,hi,rfl,hf,_,_⟩:=uD ha
  obtain⟨j,hj,rfl,hg,_,_⟩:=uD hb
  rw[dP hi,dP hj]at he
  have:=IB h hi hj hf hg he
  omega
 have:=vb (r:=[1,2,3,4,5,6]) hnd (fun y hy=>by
  rw[List.mem_map]at hy
  obtain⟨k,hk,rfl⟩:=hy
  obtain⟨i,hi,rfl,hf,_,_⟩:=uD hk
  rw[dP hi]
  have hT:=hR.tie _ (List.getElem_mem hi)
  have h0:=(pU h hi hf).t0
  have h1:=hT.t0
  have h2:=hT.t1
  simp only[List.mem_cons,List.not_mem_nil,or_false]
  omega)
 simpa using this
def oa (s:GShow)(x:GState)(k:Int):Bool:=decide ((aK s k).high≤x.now - tm x.times (aK s k).from_)
def mayT (s:GShow)(x:GState)(k:Int):Bool:=!oa s x k&&decide ((aK s k).low≤x.now - tm x.times (aK s k).from_)
def lz (s:GShow)(x:GState):List Int:=(actL s x).filter (oa s x)
def mayL (s:GShow)(x:GState):List Int:=(actL s x).filter (mayT s x)
noncomputable def lA (s:GShow)(x:GState)(n:Nat):List Int:=mrg (lz s x) (sel (cz (n:Int)) (mayL s x) (mayL s x).length)
noncomputable def bD (s:GShow)(x:GState):List (List Int):=if s.horizon<x.now then [] else (List.range (2^(mayL s x).length)).map (lA s x)
theorem Do {α:Type}(p q:α→Bool)(h:∀ x,p x=true→q x=false):∀ l:List α,(l.filter p).length+(l.filter q).length≤l.length
 | []=>by simp
 | x::l=>by
  have ih:=Do p q h l
  have hx:=h x
  cases hp:p x
  ·cases hq:q x <;> simp[List.filter_cons,hp,hq] <;> omega
  ·rw[hp]at hx
   have:=hx rfl
   simp[List.filter_cons,hp,this];omega
theorem uE (s:GShow)(x:GState):(lz s x).length+(mayL s x).length≤(actL s x).length:=Do _ _ (fun k h=>by unfold mayT;rw[h];rfl) _
theorem FP (s:GShow)(x:GState):Asc (lz s x):=(Bl s x).filter _
theorem OH (s:GShow)(x:GState):Asc (mayL s x):=(Bl s x).filter _
theorem LM (s:GShow)(x:GState)(k:Int)(h1:k∈lz s x)(h2:k∈mayL s x):False:=by
 have a:=(List.mem_filter.1 h1).2
 have b:=(List.mem_filter.1 h2).2
 unfold mayT at b
 rw[a]at b
 simp at b
theorem sX {s:GShow}(h:aF s=true)(x:GState)(n:Nat) :
  cC (lz s x++sel (cz (n:Int)) (mayL s x) (mayL s x).length)=some (lA s x n)∧fY (lz s x) (sel (cz (n:Int)) (mayL s x) (mayL s x).length)=some (lA s x n) ∧
  Asc (lA s x n)∧(∀ k,k∈lA s x n→k∈actL s x)∧(lA s x n).length=(lz s x).length+(sel (cz (n:Int)) (mayL s x) (mayL s x).length).length∧(lA s x n).length≤6:=by
 have h6:=ug h x
 have hmm:=uE s x
 have hsl:=vP (cz (n:Int)) (mayL s x) (mayL s x).length
 have hasc:=EH (p:=cz (n:Int)) (OH s x) (mayL s x).length (Nat.le_refl _)
 have hdis:∀ k,k∈lz s x→k∈sel (cz (n:Int)) (mayL s x) (mayL s x).length→False:=fun k h1 h2=>LM s x k h1 (IA h2)
 obtain⟨m1,m2,m3,m4⟩:=FO (FP s x) hasc hdis (by omega)
 refine⟨m1,JV (FP s x) hasc hdis (by omega),m2,?_,m4,by unfold lA;omega⟩
 intro k hk
 rcases(m3 k).1 hk with h1|h1
 ·exact(List.mem_filter.1 h1).1
 ·exact(List.mem_filter.1 (IA h1)).1
theorem pV {α:Type}(p:α→Bool){l:List α}{i:Nat}(hi:i<l.length):(l.take (i+1)).filter p=(l.take i).filter p++(if p l[i]=true then [l[i]] else []):=by
 rw[List.take_succ_eq_append_getElem hi,List.filter_append]
 cases hp:p l[i] <;> simp[hp]
theorem cJ {α:Type}(f:Nat→α)(n:Nat):(List.range (n+1)).map f=(List.range n).map f++[f n]:=by
 rw[List.range_succ,List.map_append];rfl
theorem qg {m:Nat}(h:m≤7):2^m≤128:=by
 have:∀ m:Nat,m<8→2^m≤128:=by decide
 exact this m (by omega)
theorem mC {m:Nat}(h:m≤7):IntKind.wrap .i64 (1*2^(min m 64))=((2^m:Nat):Int):=by
 have hb:=qg h
 rw[Nat.min_eq_left (by omega),Int.one_mul]
 have:(2:Int)^m=((2^m:Nat):Int):=by simp
 rw[this]
 generalize 2^m=q at *
 exact wr (by omega) (by omega)
theorem IC {s:GShow}{x:GState}(hx:aC s x=true){i:Nat}(hi:i<(actL s x).length) :
  getI s.ties (actL s x)[i]=some (aK s (actL s x)[i])∧getI x.times (aK s (actL s x)[i]).from_=some (tm x.times (aK s (actL s x)[i]).from_) ∧
  IntKind.wrap .i64 (x.now - tm x.times (aK s (actL s x)[i]).from_)=x.now - tm x.times (aK s (actL s x)[i]).from_:=by
 have hR:=cF hx
 have hnow:=HD hx
 have hlen:=hR.len
 obtain⟨j,hj,e,hf,_,_⟩:=uD (List.getElem_mem hi)
 rw[e,dP hj]
 have hT:=hR.right.tie _ (List.getElem_mem hj)
 have hb:=hR.all _ hT.f0 hT.f1
 refine⟨ao hj,bl hT.f0 (by have:=hT.f1;omega),wr (by omega) (by omega)⟩
theorem wx {s:GShow}{x:GState}(hx:aC s x=true):iz s x=some (bD s x):=by
 have hR:=cF hx
 have hok:aF s=true:=by unfold aC at hx;simp only[Bool.and_eq_true]at hx;exact hx.1.1.1.1.1
 have h6:=ug hok x
 have hmm:=uE s x
 unfold iz bD
 by_cases hh:s.horizon<x.now
 ·rw[if_pos hh,if_pos hh]
 rw[if_neg hh,if_neg hh,FL s x hR]
 simp only[obnd]
 have k1:aj (jF (((actL s x).length:Nat):Int) s.nodes s.ties s.horizon x.now x.times x.values (actL s x)) (((0:Nat):Int),((actL s x).take 0).filter (oa s x),((actL s x).take 0).filter (mayT s x))=some (lz s x,mayL s x):=by
  refine aE (actL s x).length (fun i=>((i:Int),((actL s x).take i).filter (oa s x),((actL s x).take i).filter (mayT s x))) ?_ ?_
  ·intro i hi
   obtain⟨e1,e2,e3⟩:=IC hx hi
   have l1:=List.length_filter_le (oa s x) ((actL s x).take i)
   have l2:=List.length_filter_le (mayT s x) ((actL s x).take i)
   rw[List.length_take]at l1 l2
   unfold jF
   simp only
   rw[if_pos (by omega),ao hi]
   simp only[obnd]
   rw[e1]
   simp only
   rw[e2]
   simp only
   rw[e3,ai (by omega),ai (by omega),ai (by omega),ai (by omega),wr (x:=(i:Int)+1) (by omega) (by omega),pV (oa s x) hi,pV (mayT s x) hi]
   by_cases hm:(aK s (actL s x)[i]).high≤x.now - tm x.times (aK s (actL s x)[i]).from_
   ·have a1:oa s x (actL s x)[i]=true:=decide_eq_true hm
    have a2:mayT s x (actL s x)[i]=false:=by unfold mayT;rw[a1];rfl
    rw[if_pos hm,a1,a2];simp
   ·have a1:oa s x (actL s x)[i]=false:=decide_eq_false hm
    rw[if_neg hm,a1]
    by_cases hl:(aK s (actL s x)[i]).low≤x.now - tm x.times (aK s (actL s x)[i]).from_
    ·have a2:mayT s x (actL s x)[i]=true:=by unfold mayT;rw[a1,decide_eq_true hl];rfl
     rw[if_pos hl,a2];simp
    ·have a2:mayT s x (actL s x)[i]=false:=by unfold mayT;rw[a1,decide_eq_false hl];rfl
     rw[if_neg hl,a2];simp
  ·unfold jF
   simp only
   rw[if_neg (by omega),List.take_length];rfl
 simp only[List.take_zero,List.filter_nil,Int.natCast_zero]at k1
 rw[k1]
 simp only
 have hpow:=qg (m:=(mayL s x).length) (by omega)
 have k2:aj (jG (lz s x) (mayL s x)) (((0:Nat):Int),(List.range 0).map (lA s x))=some ((List.range (2^(mayL s x).length)).map (lA s x)):=by
  refine aE (2^(mayL s x).length) (fun i=>((i:Int),(List.range i).map (lA s x))) ?_ ?_
  ·intro i hi
   obtain⟨f1,f2,f3,f4,f5,f6⟩:=sX hok x i
   have hsl:=vP (cz (i:Int)) (mayL s x) (mayL s x).length
   unfold jG
   simp only
   rw[ai (by omega),mC (by omega),if_pos (by omega),Dn _ _ (by omega)]
   simp only[obnd]
   rw[Nj _ (by simp) (by simp;omega)]
   simp only
   rw[show[lz s x,sel (cz (i:Int)) (mayL s x) (mayL s x).length].flatten=lz s x++sel (cz (i:Int)) (mayL s x) (mayL s x).length by simp,f1]
   simp only
   rw[ai (by rw[f5,List.length_append]),ai (by simp;omega),ai (by simp;omega),wr (x:=(i:Int)+1) (by omega) (by omega),cJ];rfl
  ·unfold jG
   simp only
   rw[ai (by omega),mC (by omega),if_neg (by omega)]
 simp only[List.range_zero,List.map_nil,Int.natCast_zero]at k2
 rw[k2]
theorem wQ {s:GShow}{x:GState}(hx:aC s x=true):gx s x=some (lz s x,mayL s x):=by
 have hR:=cF hx
 have hok:aF s=true:=by unfold aC at hx;simp only[Bool.and_eq_true]at hx;exact hx.1.1.1.1.1
 have h6:=ug hok x
 unfold gx
 rw[xW s x hR]
 simp only[obnd]
 have k1:aj (fX (((actL s x).length:Nat):Int) s.nodes s.ties s.horizon x.now x.times x.values (actL s x)) (((0:Nat):Int),((actL s x).take 0).filter (oa s x),((actL s x).take 0).filter (mayT s x))=some (lz s x,mayL s x):=by
  refine aE (actL s x).length (fun i=>((i:Int),((actL s x).take i).filter (oa s x),((actL s x).take i).filter (mayT s x))) ?_ ?_
  ·intro i hi
   obtain⟨e1,e2,e3⟩:=IC hx hi
   have l1:=List.length_filter_le (oa s x) ((actL s x).take i)
   have l2:=List.length_filter_le (mayT s x) ((actL s x).take i)
   rw[List.length_take]at l1 l2
   unfold fX
   simp only
   rw[if_pos (by omega),ao hi]
   simp only[obnd]
   rw[e1]
   simp only
   rw[e2]
   simp only
   rw[e3,ai (by omega),ai (by omega),ai (by omega),ai (by omega),wr (x:=(i:Int)+1) (by omega) (by omega),pV (oa s x) hi,pV (mayT s x) hi]
   by_cases hm:(aK s (actL s x)[i]).high≤x.now - tm x.times (aK s (actL s x)[i]).from_
   ·have a1:oa s x (actL s x)[i]=true:=decide_eq_true hm
    have a2:mayT s x (actL s x)[i]=false:=by unfold mayT;rw[a1];rfl
    rw[if_pos hm,a1,a2];simp
   ·have a1:oa s x (actL s x)[i]=false:=decide_eq_false hm
    rw[if_neg hm,a1]
    by_cases hl:(aK s (actL s x)[i]).low≤x.now - tm x.times (aK s (actL s x)[i]).from_
    ·have a2:mayT s x (actL s x)[i]=true:=by unfold mayT;rw[a1,decide_eq_true hl];rfl
     rw[if_pos hl,a2];simp
    ·have a2:mayT s x (actL s x)[i]=false:=by unfold mayT;rw[a1,decide_eq_false hl];rfl
     rw[if_neg hl,a2];simp
  ·unfold fX
   simp only
   rw[if_neg (by omega),List.take_length];rfl
 simp only[List.take_zero,List.filter_nil,Int.natCast_zero]at k1
 rw[k1]
theorem xY {s:GShow}{x:GState}(hs:aM s)(hx:aC s x=true)(h1:x.times.length≤1048576)(h2:x.values.length≤1048576):kk s x=some (bD s x):=by
 have hR:=cF hx
 have hok:aF s=true:=by unfold aC at hx;simp only[Bool.and_eq_true]at hx;exact hx.1.1.1.1.1
 have h6:=ug hok x
 have hmm:=uE s x
 unfold kk bD
 rw[rY s x hs h1 h2,hx]
 simp only[obnd,if_true]
 by_cases hh:s.horizon<x.now
 ·rw[if_pos hh,if_pos hh]
 rw[if_neg hh,if_neg hh,wQ hx]
 simp only
 have hpow:=qg (m:=(mayL s x).length) (by omega)
 have k2:aj (gO (lz s x) (mayL s x)) (((0:Nat):Int),(List.range 0).map (lA s x))=some ((List.range (2^(mayL s x).length)).map (lA s x)):=by
  refine aE (2^(mayL s x).length) (fun i=>((i:Int),(List.range i).map (lA s x))) ?_ ?_
  ·intro i hi
   obtain⟨f1,f2,f3,f4,f5,f6⟩:=sX hok x i
   unfold gO
   simp only
   rw[wru (by omega),ai (by omega),Int.toNat_natCast,mC (by omega),if_pos (by omega),rZ _ _ (by omega)]
   simp only[obnd]
   rw[f2]
   simp only
   rw[ai (by simp;omega),ai (by simp;omega),wr (x:=(i:Int)+1) (by omega) (by omega),cJ];rfl
  ·unfold gO
   simp only
   rw[wru (by omega),ai (by omega),Int.toNat_natCast,mC (by omega),if_neg (by omega)]
 simp only[List.range_zero,List.map_nil,Int.natCast_zero]at k2
 rw[k2]
theorem kB {s:GShow}{x:GState}(hok:aF s=true){ties:List Int}(h:ties∈bD s x):x.now≤s.horizon∧ties.length≤6∧(∀ k,k∈ties→k∈actL s x):=by
 unfold bD at h
 by_cases hh:s.horizon<x.now
 ·rw[if_pos hh]at h;simp at h
 rw[if_neg hh,List.mem_map]at h
 obtain⟨n,_,rfl⟩:=h
 obtain⟨f1,f2,f3,f4,f5,f6⟩:=sX hok x n
 exact⟨by omega,f6,f4⟩
theorem tu {s:GShow}{x:GState}(hok:aF s=true):(bD s x).length≤128:=by
 unfold bD
 have h6:=ug hok x
 have hmm:=uE s x
 have hpow:=qg (m:=(mayL s x).length) (by omega)
 split
 ·simp
 ·simpa using hpow
theorem EI (xs:List (List Int))(p:List Int→Option Bool)(q:List Int→Bool)(hx:Cnt xs.length)(hp:∀ x,x∈xs→p x=some (q x)):ek xs p=some (aH xs q):=by
 unfold ek aH
 have key:=gG (body:=cj xs p ((xs.length:Nat):Int)) xs q (fun i=>(i:Int)) (rT:=.inl ()) (fun i=>.inr (i:Int)) ?_ ?_ ?_
 ·rw[show(0:Int)=((0:Nat):Int) from rfl,key]
  simp only[obnd]
  cases xs.findIdx? q <;> rfl
 ·intro i hi hq
  unfold cj
  unfold Cnt at hx
  rw[if_pos (by omega),ao hi,wr (x:=(i:Int)+1) (by omega) (by omega)]
  simp only[obnd]
  rw[hp _ (List.getElem_mem hi),hq];rfl
 ·intro i hi hq
  unfold cj
  rw[if_pos (by omega),ao hi]
  simp only[obnd]
  rw[hp _ (List.getElem_mem hi),hq];rfl
 ·unfold cj
  rw[if_neg (by omega)]
theorem Bm (xs:List (List Int))(l:List Int)(hx:Cnt xs.length)(hl:Cnt l.length):mX xs l=some (decide (l∈xs)):=by
 unfold mX eX
 rw[EI xs _ (fun y=>decide (l=y)) hx (fun y _=>by unfold qf;rw[tz l y hl];rfl)]
 simp only[obnd]
 rw[mV]
 congr 1
 rw[Bool.eq_iff_iff,List.any_eq_true,decide_eq_true_eq]
 simp
theorem Bn (xs:List (List Int))(l:List Int)(hx:Cnt xs.length)(hx2:∀ x,x∈xs→Cnt x.length):mn xs l=some (decide (l∈xs)):=by
 unfold mn
 have key:aj (je l xs ((xs.length:Nat):Int)) ((0:Nat):Int)=some (if xs.all (fun x=>!decide (x=l))=true then .inl () else .inr true):=by
  unfold Cnt at hx
  refine eW xs (fun x=>!decide (x=l)) (fun i=>(i:Int)) ?_ ?_ ?_
  ·intro i hi hq
   rw[Bool.not_eq_true',decide_eq_false_iff_not]at hq
   unfold je
   rw[if_pos (by omega),ao hi,wr (x:=(i:Int)+1) (by omega) (by omega)]
   simp only[obnd]
   rw[sj _ _ (hx2 _ (List.getElem_mem hi))]
   simp only
   rw[if_neg (by rw[decide_eq_false hq];simp)];rfl
  ·intro i hi hq
   rw[Bool.not_eq_false',decide_eq_true_eq]at hq
   unfold je
   rw[if_pos (by omega),ao hi]
   simp only[obnd]
   rw[sj _ _ (hx2 _ (List.getElem_mem hi))]
   simp only
   rw[if_pos (decide_eq_true hq)]
  ·unfold je
   rw[if_neg (by omega)]
 rw[show(0:Int)=((0:Nat):Int) from rfl,key]
 have e:decide (l∈xs)=!xs.all (fun x=>!decide (x=l)):=by
  rw[Bool.eq_iff_iff,decide_eq_true_eq,Bool.not_eq_true',List.all_eq_false]
  simp
 rw[e]
 cases xs.all (fun x=>!decide (x=l)) <;> rfl
def bk (f:Int→Int)(v:Int)(ks t:List Int):List Int:=ks.foldl (fun t k=>t.set (f k).toNat v) t
theorem sY (f:Int→Int)(v:Int)(ks:List Int)(k:Int)(t:List Int):bk f v (ks++[k]) t=(bk f v ks t).set (f k).toNat v:=by
 unfold bk;rw[List.foldl_append];rfl
theorem ct (f:Int→Int)(v:Int):∀ (ks t:List Int),(bk f v ks t).length=t.length
 | [],t=>rfl
 | k::ks,t=>by
  show(bk f v ks (t.set (f k).toNat v)).length=_
  rw[ct f v ks,List.length_set]
theorem uF (t:List Int)(j i v:Int)(hj:0≤j)(hj2:j<t.length)(hi:0≤i):tm (t.set j.toNat v) i=if i=j then v else tm t i:=by
 unfold tm
 rw[List.getElem?_set]
 by_cases h:i=j
 ·subst h
  rw[if_pos rfl,if_pos (by omega),if_pos rfl];rfl
 ·rw[if_neg (by omega),if_neg h]
theorem vc (f:Int→Int)(v:Int):∀ (ks t:List Int) (i:Int),0≤i→(∀ k,k∈ks→0≤f k∧f k<t.length)→tm (bk f v ks t) i=if i∈ks.map f then v else tm t i
 | [],t,i,_,_=>by simp[bk]
 | k::ks,t,i,h0,h=>by
  have hk:=h k (by simp)
  show tm (bk f v ks (t.set (f k).toNat v)) i=_
  rw[vc f v ks _ i h0 (fun k' hk'=>by rw[List.length_set];exact h k' (by simp[hk'])),uF _ _ _ _ hk.1 hk.2 h0]
  by_cases h1:i∈ks.map f
  ·rw[if_pos h1,if_pos (by simp only[List.map_cons,List.mem_cons];exact .inr h1)]
  ·rw[if_neg h1]
   by_cases h2:i=f k
   ·rw[if_pos h2,if_pos (by simp[h2])]
   ·rw[if_neg h2,if_neg (by simp only[List.map_cons,List.mem_cons];rintro(h3|h3);exact h2 h3;exact h1 h3)]
theorem sb (x:GState)(h1:x.times.length≤1048576)(h2:x.values.length≤1048576):dL x=some x:=by
 unfold dL
 rw[eU _ h1,eU _ h2];rfl
theorem sc (x:GState)(h1:x.times.length≤1048576)(h2:x.values.length≤1048576):dZ x=some x:=by
 unfold dZ
 rw[ai (by omega),ai (by omega),ai (by omega),ai (by omega)]
def endX (s:GShow)(x:GState)(ties:List Int):GState:=⟨x.now,bk (fun k=>(aK s k).to) x.now ties x.times,x.values⟩
theorem wy {s:GShow}{x:GState}(hx:aC s x=true){ties:List Int}(ht:∀ k,k∈ties→k∈actL s x){i:Nat}(hi:i<ties.length) :
  getI s.ties ties[i]=some (aK s ties[i])∧0≤(aK s ties[i]).to∧(aK s ties[i]).to<x.times.length:=by
 have hR:=cF hx
 have hlen:=hR.len
 obtain⟨j,hj,e,_,_,_⟩:=uD (ht _ (List.getElem_mem hi))
 rw[e,dP hj]
 have hT:=hR.right.tie _ (List.getElem_mem hj)
 exact⟨ao hj,hT.t0,by have:=hT.t1;omega⟩
theorem Bo {s:GShow}{x:GState}(hx:aC s x=true)(h2:x.values.length≤1048576){ties:List Int}(hl:ties.length≤1000)(ht:∀ k,k∈ties→k∈actL s x):kw s x ties=some (endX s x ties):=by
 have hR:=cF hx
 have hlen:=hR.len
 have hn:=hR.right.nodes
 unfold kw
 rw[sb x (by omega) h2]
 simp only[obnd]
 have key:aj (lr ties ((ties.length:Nat):Int) s.nodes s.ties s.horizon x.now x.times x.values x.now x.values) (((0:Nat):Int),bk (fun k=>(aK s k).to) x.now (ties.take 0) x.times)=some (bk (fun k=>(aK s k).to) x.now ties x.times):=by
  refine aE ties.length (fun i=>((i:Int),bk (fun k=>(aK s k).to) x.now (ties.take i) x.times)) ?_ ?_
  ·intro i hi
   obtain⟨e1,e2,e3⟩:=wy hx ht hi
   unfold lr
   simp only
   rw[if_pos (by omega),ao hi]
   simp only[obnd]
   rw[e1]
   simp only
   rw[bl e2 (by rw[ct];exact e3)]
   simp only
   rw[wr (x:=(i:Int)+1) (by omega) (by omega),List.take_succ_eq_append_getElem hi,sY];rfl
  ·unfold lr
   simp only
   rw[if_neg (by omega),List.take_length]
 rw[List.take_zero]at key
 change obnd (aj _ (((0:Nat):Int),bk (fun k=>(aK s k).to) x.now [] x.times)) _=_
 rw[key];rfl
theorem xZ {s:GShow}{x:GState}(hx:aC s x=true)(h2:x.values.length≤1048576){ties:List Int}(hl:ties.length≤1000)(ht:∀ k,k∈ties→k∈actL s x):kL s x ties=some (endX s x ties):=by
 have hR:=cF hx
 have hlen:=hR.len
 have hn:=hR.right.nodes
 unfold kL
 rw[sc x (by omega) h2]
 simp only[obnd]
 have key:aj (kl ties ((ties.length:Nat):Int) s.nodes s.ties s.horizon x.now x.times x.values x.now x.values) (((0:Nat):Int),bk (fun k=>(aK s k).to) x.now (ties.take 0) x.times)=some (bk (fun k=>(aK s k).to) x.now ties x.times):=by
  refine aE ties.length (fun i=>((i:Int),bk (fun k=>(aK s k).to) x.now (ties.take i) x.times)) ?_ ?_
  ·intro i hi
   obtain⟨e1,e2,e3⟩:=wy hx ht hi
   unfold kl
   simp only
   rw[if_pos (by omega),ao hi]
   simp only[obnd]
   rw[e1]
   simp only
   rw[bl e2 (by rw[ct];exact e3)]
   simp only
   rw[wr (x:=(i:Int)+1) (by omega) (by omega),List.take_succ_eq_append_getElem hi,sY];rfl
  ·unfold kl
   simp only
   rw[if_neg (by omega),List.take_length]
 rw[List.take_zero]at key
 change obnd (aj _ (((0:Nat):Int),bk (fun k=>(aK s k).to) x.now [] x.times)) _=_
 rw[key];rfl
def HE (x:GState):GState:=⟨x.now+1,x.times,x.values⟩
def HF (s:GShow)(x:GState):Bool:=decide (0≤x.now∧x.now≤s.horizon)&&aC s (HE x)
theorem zw {s:GShow}{x:GState}(hx:aC s x=true){ties:List Int}(ht:∀ k,k∈ties→k∈actL s x){i:Int}(hi:0≤i) :
  tm (endX s x ties).times i=if i∈ties.map (fun k=>(aK s k).to) then x.now else tm x.times i:=by
 unfold endX
 refine vc _ _ _ _ _ hi ?_
 intro k hk
 obtain⟨j,hj,rfl⟩:=List.getElem_of_mem hk
 exact(wy hx ht hj).2
theorem Dp {s:GShow}{x:GState}(hok:aF s=true){ties:List Int}(ht:∀ k,k∈ties→k∈actL s x){i:Int}(h:i∈ties.map (fun k=>(aK s k).to)):i≠0∧∀ b,s.nodes[i.toNat]?=some b→b.watch=0:=by
 rw[List.mem_map]at h
 obtain⟨k,hk,rfl⟩:=h
 obtain⟨j,hj,rfl,hf,_,_⟩:=uD (ht _ hk)
 rw[dP hj]
 have:=pU hok hj hf
 exact⟨this.t0,this.watch⟩
theorem wz {s:GShow}{x:GState}(hx:aC s x=true)(hh:x.now≤s.horizon){ties:List Int}(ht:∀ k,k∈ties→k∈actL s x):HF s (endX s x ties)=true:=by
 have hnow:=HD hx
 have hx0:=hx
 have hl:(endX s x ties).times.length=x.times.length:=ct _ _ _ _
 unfold aC at hx
 simp only[Bool.and_eq_true,decide_eq_true_eq]at hx
 obtain⟨⟨⟨⟨⟨h1,h2⟩,h3⟩,h4⟩,h5⟩,h6⟩:=hx
 unfold HF aC
 simp only[Bool.and_eq_true,decide_eq_true_eq]
 refine⟨⟨h2.1,hh⟩,⟨⟨⟨⟨h1,?_⟩,?_⟩,h4⟩,?_⟩,?_⟩
 ·show 0≤x.now+1∧x.now+1≤s.horizon+1
  omega
 ·exact hl.trans h3
 ·intro i hi
  have hi':i<x.times.length:=by rw[← hl];exact hi
  have h5i:=h5 i hi'
  unfold kF at h5i ⊢
  have e:=zw hx0 ht (i:=(i:Int)) (by omega)
  show(if i=0 then decide (tm (endX s x ties).times 0=0) else decide (-1≤tm (endX s x ties).times i∧tm (endX s x ties).times i≤x.now+1 - 1))=true
  by_cases hi0:i=0
  ·rw[if_pos hi0]at h5i ⊢
   subst hi0
   rw[show((0:Nat):Int)=0 from rfl]at e
   rw[e,if_neg (fun h=>(Dp h1 ht h).1 rfl)]
   exact h5i
  ·rw[if_neg hi0]at h5i ⊢
   rw[decide_eq_true_eq]at h5i ⊢
   rw[e]
   split
   ·omega
   ·omega
 ·intro i hi
  have h6i:=h6 i hi
  unfold jJ at h6i ⊢
  show(decide (tm x.values i≠0) == (decide (0≤aH s.nodes (fun n=>decide (n.watch=(i:Int)+1)))&&decide (tm (endX s x ties).times (aH s.nodes (fun n=>decide (n.watch=(i:Int)+1)))≠-1)))=true
  by_cases hw:0≤aH s.nodes (fun n=>decide (n.watch=(i:Int)+1))
  ·obtain⟨j,hj,e,hq,_⟩:=jS hw
   rw[zw hx0 ht hw,if_neg ?_]
   ·exact h6i
   ·intro hm
    have:=(Dp h1 ht hm).2 s.nodes[j] (by rw[e,Int.toNat_natCast,List.getElem?_eq_getElem hj])
    rw[decide_eq_true_eq]at hq
    omega
  ·rw[decide_eq_false hw]at h6i ⊢
   simpa using h6i
end Go.Proofs.Qc
set_option maxRecDepth 100000
namespace Go.Proofs.Qc
open Go
def litV (v:List Int)(x:Int):Int:=if x<0 then 0 - tm v (pr x - 1) else tm v (pr x - 1)
def dc (l v:List Int):Int:=l.foldl (fun o x=>if litV v x<o then litV v x else o) 1
theorem ID {x:Int}(h1:-3≤x)(h2:x≤3):pr x≤3:=by
 unfold pr
 split
 ·rw[wr (by omega) (by omega)];omega
 ·omega
theorem bb {v:List Int}(h:ce v=true):v.length=3∧∀ x,x∈v→-1≤x∧x≤1:=by
 unfold ce at h
 simp only[Bool.and_eq_true,decide_eq_true_eq,List.all_eq_true]at h
 exact h
theorem KH {l v:List Int}(hl:bL l=true)(hv:ce v=true){x:Int}(hx:x∈l):getI v (IntKind.wrap .i64 (pr x - 1))=some (tm v (pr x - 1))∧IntKind.wrap .i64 (0 - tm v (pr x - 1))=0 - tm v (pr x - 1):=by
 obtain⟨h1,h2,h3⟩:=yl hl hx
 have h4:=ID h2 h3
 obtain⟨v1,v2⟩:=bb hv
 have hb:=v2 _ (Nd (ts:=v) (i:=pr x - 1) (by omega) (by omega))
 rw[wr (x:=pr x - 1) (by omega) (by omega)]
 exact⟨bl (by omega) (by omega),wr (by omega) (by omega)⟩
theorem sd {l v:List Int}(hl:bL l=true)(hv:ce v=true)(hc:Cnt l.length):eo l v=some (dc l v):=by
 have v1:=(bb hv).1
 unfold eo
 rw[oI l hc,hl]
 simp only[obnd,if_true]
 rw[wP v (by unfold Cnt;omega),hv]
 simp only[if_true]
 have key:aj (fW v l ((l.length:Nat):Int)) ((l.take 0).foldl (fun o x=>if litV v x<o then litV v x else o) 1,((0:Nat):Int))=some (dc l v):=by
  refine aE l.length (fun i=>((l.take i).foldl (fun o x=>if litV v x<o then litV v x else o) 1,(i:Int))) ?_ ?_
  ·intro i hi
   unfold Cnt at hc
   obtain⟨e1,e2⟩:=KH hl hv (List.getElem_mem hi)
   unfold fW
   simp only
   rw[if_pos (by omega),ao hi,wr (x:=(i:Int)+1) (by omega) (by omega)]
   simp only[obnd]
   have hh:oD l[i] v=some (litV v l[i]):=by
    unfold oD litV
    rw[qT]
    simp only[obnd]
    rw[e1]
    simp only
    rw[e2]
    split <;> rfl
   rw[hh]
   simp only
   rw[List.take_succ_eq_append_getElem hi,List.foldl_append];rfl
  ·unfold fW
   simp only
   rw[if_neg (by omega),List.take_length];rfl
 rw[List.take_zero]at key
 change obnd (aj _ (1,((0:Nat):Int))) _=_
 rw[show(1:Int)=([]:List Int).foldl (fun o x=>if litV v x<o then litV v x else o) 1 from rfl,key];rfl
theorem sZ {l v:List Int}(hl:bL l=true)(hv:ce v=true)(hc:Cnt l.length):bI l v=some (dc l v):=by
 unfold bI
 have key:aj (iK v l ((l.length:Nat):Int)) ((l.take 0).foldl (fun o x=>if litV v x<o then litV v x else o) 1,((0:Nat):Int))=some (dc l v):=by
  refine aE l.length (fun i=>((l.take i).foldl (fun o x=>if litV v x<o then litV v x else o) 1,(i:Int))) ?_ ?_
  ·intro i hi
   unfold Cnt at hc
   obtain⟨e1,e2⟩:=KH hl hv (List.getElem_mem hi)
   unfold iK
   simp only
   rw[if_pos (by omega),ao hi,wr (x:=(i:Int)+1) (by omega) (by omega)]
   simp only[obnd]
   rw[sg]
   simp only
   rw[e1]
   simp only
   rw[e2,List.take_succ_eq_append_getElem hi,List.foldl_append]
   unfold litV
   simp only[List.foldl_cons,List.foldl_nil]
   by_cases hx:l[i]<0
   ·simp only[if_pos hx];rfl
   ·simp only[if_neg hx];rfl
  ·unfold iK
   simp only
   rw[if_neg (by omega),List.take_length];rfl
 rw[List.take_zero]at key
 change obnd (aj _ (1,((0:Nat):Int))) _=_
 rw[show(1:Int)=([]:List Int).foldl (fun o x=>if litV v x<o then litV v x else o) 1 from rfl,key];rfl
def tv (s:GShow)(k:Int):Int:=aH s.ties (fun t=>t.free&&decide (t.to=k))
def cu (s:GShow)(i:Nat):List Int:=((s.nodes[i]?).map (fun n=>n.label)).getD []
def chAt (s:GShow)(i:Nat):Bool:=decide (0<i)&&decide (tv s (i:Int)<0)
def opAt (s:GShow)(x:GState)(i:Nat):Bool:=decide (tm x.times (i:Int)=-1)&&decide (dc (cu s i) x.values=1)
def enAt (s:GShow)(x:GState)(i:Nat):Bool:=chAt s i&&opAt s x i
def enL (s:GShow)(x:GState):List Int:=aX (enAt s x) s.nodes.length
theorem wR (p:Nat→Bool)(q:Int→Bool):∀ n,(aX p n).filter q=aX (fun i=>p i&&q (i:Int)) n
 | 0=>rfl
 | n+1=>by
  have ih:=wR p q n
  cases hp:p n
  ·rw[cd hp,cd (by simp[hp]),ih]
  ·rw[gh hp,List.filter_append,ih]
   cases hq:q (n:Int)
   ·rw[cd (by simp[hp,hq])];simp[hq]
   ·rw[gh (by simp[hp,hq])];simp[hq]
theorem ya {p q:Nat→Bool}:∀ {n:Nat},(∀ i,i<n→p i=q i)→aX p n=aX q n
 | 0,_=>rfl
 | n+1,h=>by
  have ih:=ya (n:=n) (fun i hi=>h i (by omega))
  have hn:=h n (by omega)
  cases hp:p n
  ·rw[cd hp,cd (by rw[← hn];exact hp),ih]
  ·rw[gh hp,gh (by rw[← hn];exact hp),ih]
theorem LN (s:GShow)(k:Int)(hs:aM s):my s k=some (tv s k):=by
 unfold my tv
 rw[wV s.ties _ (fun t=>t.free&&decide (t.to=k)) hs.ties]
 ·rfl
 ·intro t _
  unfold lV
  cases t.free <;> rfl
theorem Nk (s:GShow)(hs:aM s)(hR:rX s):nF s=some (aX (chAt s) s.nodes.length):=by
 have h1:=hR.node1
 have h7:=hR.nodes
 unfold nF
 have key:aj (kx s.nodes s.ties s.horizon) (((0:Nat):Int)+1,aX (chAt s) (0+1))=some (aX (chAt s) s.nodes.length):=by
  refine aE (s.nodes.length - 1) (fun i=>((i:Int)+1,aX (chAt s) (i+1))) ?_ ?_
  ·intro i hi
   have hl:=eY (chAt s) (i+1)
   unfold kx
   simp only
   rw[if_pos (by omega),show(GShow.mk s.nodes s.ties s.horizon)=s from rfl,LN s _ hs,wr (x:=(i:Int)+1+1) (by omega) (by omega),ai (by omega),ai (by omega)]
   simp only[obnd]
   have e:chAt s (i+1)=decide (tv s ((i:Int)+1)<0):=by
    unfold chAt
    rw[decide_eq_true (show 0<i+1 by omega),Bool.true_and];rfl
   by_cases hf:tv s ((i:Int)+1)<0
   ·rw[if_pos hf,gh (n:=i+1) (by rw[e];exact decide_eq_true hf)];rfl
   ·rw[if_neg hf,cd (n:=i+1) (by rw[e];exact decide_eq_false hf)];rfl
  ·unfold kx
   simp only
   rw[if_neg (by omega),show s.nodes.length - 1+1=s.nodes.length by omega]
 have e0:aX (chAt s) (0+1)=[]:=by rw[cd (by rfl)];rfl
 rw[e0]at key
 change obnd (aj _ (((0:Nat):Int)+1,[])) _=_
 rw[key];rfl
theorem tw {s:GShow}(hok:aF s=true){i:Nat}(hi:i<s.nodes.length):bL s.nodes[i].label=true∧0≤s.nodes[i].watch∧s.nodes[i].watch≤3:=by
 unfold aF at hok
 simp only[Bool.and_eq_true]at hok
 have h:=Bd hok.1.1.1.1 _ (List.getElem_mem hi)
 have h2:=h
 unfold mG at h2
 simp only[Bool.and_eq_true,decide_eq_true_eq]at h2
 exact⟨ym h,h2.2⟩
theorem sP {s:GShow}{i:Nat}(hi:i<s.nodes.length):cu s i=s.nodes[i].label:=by
 unfold cu
 rw[List.getElem?_eq_getElem hi];rfl
structure MomR (s:GShow) (x:GState):Prop where
 ok:aF s=true
 right:rX s
 now:0≤x.now∧x.now≤s.horizon
 len:x.times.length=s.nodes.length
 val:ce x.values=true
 nxt:aC s (HE x)=true
theorem vd {s:GShow}{x:GState}(h:HF s x=true):MomR s x:=by
 unfold HF at h
 simp only[Bool.and_eq_true,decide_eq_true_eq]at h
 obtain⟨h1,h2⟩:=h
 have h3:=h2
 unfold aC at h2
 simp only[Bool.and_eq_true,decide_eq_true_eq]at h2
 obtain⟨⟨⟨⟨⟨a1,a2⟩,a3⟩,a4⟩,a5⟩,a6⟩:=h2
 exact⟨a1,bC a1,h1,a3,a4,h3⟩
theorem LO {s:GShow}{x:GState}(hs:aM s)(h:MomR s x):mz s x=some (enL s x):=by
 have h7:=h.right.nodes
 have hln:=h.len
 have hpl:=eY (chAt s) s.nodes.length
 unfold mz
 rw[Nk s hs h.right]
 simp only[obnd]
 rw[vO _ _ (fun k=>!(decide (tm x.times k=-1)&&decide (dc (cu s k.toNat) x.values=1))) (by unfold Cnt;omega)]
 ·simp only[Bool.not_not]
  rw[wR]
  unfold enL
  rw[ya (q:=enAt s x)]
  intro i hi
  unfold enAt opAt
  rw[Int.toNat_natCast]
 ·intro k hk
  obtain⟨i,hi,_,rfl⟩:=ly.1 hk
  unfold lW
  rw[ew (by omega)]
  simp only[obnd]
  by_cases ht:tm x.times (i:Int)=-1
  ·rw[if_pos ht]
   unfold cX
   rw[ao hi]
   simp only[obnd]
   rw[sd (tw h.ok hi).1 h.val (hs.node _ (List.getElem_mem hi)).2,decide_eq_true ht,Int.toNat_natCast,sP hi]
   simp
  ·rw[if_neg ht,decide_eq_false ht];rfl
theorem wS {s:GShow}{x:GState}(hs:aM s)(h:MomR s x):gy s x=some (enL s x):=by
 have h7:=h.right.nodes
 have hln:=h.len
 unfold gy
 have key:aj (fZ s.nodes ((s.nodes.length:Nat):Int) s.ties s.horizon x.now x.times x.values) (((0:Nat):Int),aX (enAt s x) 0)=some (enL s x):=by
  refine aE s.nodes.length (fun i=>((i:Int),aX (enAt s x) i)) ?_ ?_
  ·intro i hi
   have hpl:=eY (enAt s x) i
   unfold fZ
   simp only
   rw[if_pos (by omega),ao hi,show(GShow.mk s.nodes s.ties s.horizon)=s from rfl,Dx s _ hs.ties,ew (by omega),wr (x:=(i:Int)+1) (by omega) (by omega),ai (by omega),ai (by omega)]
   simp only[obnd]
   rw[sZ (tw h.ok hi).1 h.val (hs.node _ (List.getElem_mem hi)).2]
   simp only
   have e:enAt s x i=(decide (0<i)&&decide (tv s (i:Int)<0)&&(decide (tm x.times (i:Int)=-1)&&decide (dc s.nodes[i].label x.values=1))):=by
    unfold enAt chAt opAt
    rw[sP hi]
   change (if (0:Int)<(i:Int) then (if tv s (i:Int)<0 then _ else _) else _)=_
   by_cases h0:0<i
   ·rw[if_pos (by omega)]
    by_cases hf:tv s (i:Int)<0
    ·rw[if_pos hf]
     by_cases ht:tm x.times (i:Int)=-1
     ·rw[if_pos ht]
      by_cases hs1:dc s.nodes[i].label x.values=1
      ·rw[if_pos hs1,gh (by rw[e,decide_eq_true h0,decide_eq_true hf,decide_eq_true ht,decide_eq_true hs1];rfl)];rfl
      ·rw[if_neg hs1,cd (by rw[e,decide_eq_false hs1];simp)];rfl
     ·rw[if_neg ht,cd (by rw[e,decide_eq_false ht];simp)];rfl
    ·rw[if_neg hf,cd (by rw[e,decide_eq_false hf];simp)];rfl
   ·rw[if_neg (by omega),cd (by rw[e,decide_eq_false h0];rfl)];rfl
  ·unfold fZ
   simp only
   rw[if_neg (by omega)];rfl
 rw[pS]at key
 change obnd (aj _ (((0:Nat):Int),[])) _=_
 rw[key];rfl
def lY (s:GShow)(x:GState)(j:Nat):List Int:=sel (cz ((2^(enL s x).length - 1 - j:Nat):Int)) (enL s x) (enL s x).length
def decL (s:GShow)(x:GState):List (List Int):=(List.range (2^(enL s x).length)).map (lY s x)
theorem vQ {s:GShow}(hR:rX s)(x:GState):(enL s x).length≤7:=by
 have:=eY (enAt s x) s.nodes.length
 have:=hR.nodes
 unfold enL;omega
theorem uG {s:GShow}{x:GState}(hs:aM s)(h:MomR s x):fc s x=some (decL s x):=by
 have h7:=vQ h.right x
 have hpow:=qg h7
 have hpos:0<2^(enL s x).length:=Nat.pow_pos (by omega)
 unfold fc
 rw[LO hs h]
 simp only[obnd]
 rw[ai (by omega),mC h7]
 unfold decL
 have hd:∀ j,lY s x j=sel (cz ((2^(enL s x).length - 1 - j:Nat):Int)) (enL s x) (enL s x).length:=fun _=>rfl
 generalize 2^(enL s x).length=q at *
 rw[wr (by omega) (by omega)]
 have key:aj (gY (enL s x)) ((q:Int) - 1 - ((0:Nat):Int),(List.range 0).map (lY s x))=some ((List.range q).map (lY s x)):=by
  refine aE q (fun i=>((q:Int) - 1 - (i:Int),(List.range i).map (lY s x))) ?_ ?_
  ·intro i hi
   unfold gY
   simp only
   rw[if_pos (by omega),Dn _ _ (by omega),wr (by omega) (by omega)]
   simp only[obnd]
   rw[ai (by simp;omega),ai (by simp;omega),cJ,hd i,show(((q - 1 - i:Nat)):Int)=(q:Int) - 1 - (i:Int) by omega,show(q:Int) - 1 - (i:Int) - 1=(q:Int) - 1 - ((i+1:Nat):Int) by omega]
  ·unfold gY
   simp only
   rw[if_neg (by omega)]
 simp only[List.range_zero,List.map_nil,Int.natCast_zero,Int.sub_zero]at key
 rw[key]
theorem JW {s:GShow}{x:GState}(hs:aM s)(h:MomR s x):lf s x=some true:=by
 have hh:=h.right.hor
 have hn:=h.now
 have h7:=h.right.nodes
 have hln:=h.len
 have hv:=(bb h.val).1
 unfold lf
 rw[bU,decide_eq_true (by omega)]
 simp only[obnd,if_true]
 rw[eR s hs,h.ok]
 simp only[if_true]
 rw[if_neg (by omega),sc x (by omega) (by omega)]
 simp only
 rw[wr (by omega) (by omega)]
 change obnd (ea s (HE x)) _=_
 rw[rY s (HE x) hs (by show x.times.length≤_;omega) (by show x.values.length≤_;omega),h.nxt];rfl
theorem vR {s:GShow}{x:GState}(hs:aM s)(h:MomR s x):fG s x=some (decL s x):=by
 have h7:=vQ h.right x
 have hpow:=qg h7
 have hpos:0<2^(enL s x).length:=Nat.pow_pos (by omega)
 unfold fG
 rw[JW hs h]
 simp only[obnd,if_true]
 rw[wS hs h]
 simp only
 rw[wru (by omega),ai (by omega),Int.toNat_natCast,mC h7]
 unfold decL
 have hd:∀ j,lY s x j=sel (cz ((2^(enL s x).length - 1 - j:Nat):Int)) (enL s x) (enL s x).length:=fun _=>rfl
 generalize 2^(enL s x).length=q at *
 rw[wr (by omega) (by omega)]
 have key:aj (fF (enL s x)) ((q:Int) - 1 - ((0:Nat):Int),(List.range 0).map (lY s x))=some ((List.range q).map (lY s x)):=by
  refine aE q (fun i=>((q:Int) - 1 - (i:Int),(List.range i).map (lY s x))) ?_ ?_
  ·intro i hi
   unfold fF
   simp only
   rw[if_pos (by omega),rZ _ _ (by omega),wr (by omega) (by omega)]
   simp only[obnd]
   rw[ai (by simp;omega),ai (by simp;omega),cJ,hd i,show(((q - 1 - i:Nat)):Int)=(q:Int) - 1 - (i:Int) by omega,show(q:Int) - 1 - (i:Int) - 1=(q:Int) - 1 - ((i+1:Nat):Int) by omega]
  ·unfold fF
   simp only
   rw[if_neg (by omega)]
 simp only[List.range_zero,List.map_nil,Int.natCast_zero,Int.sub_zero]at key
 rw[key]
theorem oV {s:GShow}{x:GState}{k:Int}(h:k∈enL s x):∃ i,i<s.nodes.length∧k=(i:Int)∧0<i∧tm x.times (i:Int)=-1:=by
 obtain⟨i,hi,hp,rfl⟩:=ly.1 h
 unfold enAt chAt opAt at hp
 simp only[Bool.and_eq_true,decide_eq_true_eq]at hp
 exact⟨i,hi,rfl,hp.1.1,hp.2.1⟩
theorem dQ {s:GShow}{x:GState}(hR:rX s){nodes:List Int}(h:nodes∈decL s x):Asc nodes∧nodes.length≤7∧∀ k,k∈nodes→k∈enL s x:=by
 unfold decL at h
 rw[List.mem_map]at h
 obtain⟨j,_,rfl⟩:=h
 have h7:=vQ hR x
 have:=vP (cz ((2^(enL s x).length - 1 - j:Nat):Int)) (enL s x) (enL s x).length
 exact⟨EH (sa _ _) _ (Nat.le_refl _),by unfold lY;omega,fun k hk=>IA hk⟩
theorem sQ {s:GShow}(hR:rX s)(x:GState):(decL s x).length≤128:=by
 unfold decL
 simpa using qg (vQ hR x)
def vS (s:GShow)(k:Int):Int:=((s.nodes[k.toNat]?).map (fun n=>n.watch)).getD 0
def aV (s:GShow)(p:Int):Int:=aH s.nodes (fun n=>decide (n.watch=p))
def az (s:GShow)(nodes:List Int):List Int:=[1,2,3].filter (fun p=>decide (aV s p∈nodes))
def decX (x:GState)(nodes:List Int):GState:=⟨x.now,bk (fun k=>k) x.now nodes x.times,x.values⟩
theorem Dq {s:GShow}(hok:aF s=true){i j:Nat}(hi:i<s.nodes.length)(hj:j<s.nodes.length)(h:s.nodes[i].watch=s.nodes[j].watch)(h0:s.nodes[i].watch≠0):i=j:=by
 have key:∀ {i j:Nat} (hi:i<s.nodes.length) (hj:j<s.nodes.length),s.nodes[i].watch=s.nodes[j].watch→s.nodes[j].watch≠0→¬ i<j:=by
  intro i j hi hj he hn hlt
  unfold aF lE at hok
  simp only[Bool.and_eq_true,decide_eq_true_eq]at hok
  have hp:=hok.1.1.1.1.2 j hj
  rw[uL hj,Bool.and_eq_true]at hp
  have hE:=hp.2
  unfold uh at hE
  rw[List.all_eq_true]at hE
  have:=hE s.nodes[i] (List.mem_take_iff_getElem.2 ⟨i,by omega,rfl⟩)
  simp only[Bool.and_eq_true,Bool.or_eq_true,Bool.not_eq_true',decide_eq_false_iff_not,decide_eq_true_eq]at this
  rcases this.2 with h1|h1
  ·exact hn h1
  ·exact h1 he
 rcases Nat.lt_trichotomy i j with hlt|he|hlt
 ·exact absurd hlt (key hi hj h (by rw[← h];exact h0))
 ·exact he
 ·exact absurd hlt (key hj hi h.symm h0)
theorem LP {s:GShow}(hok:aF s=true){i:Nat}(hi:i<s.nodes.length)(h0:s.nodes[i].watch≠0):aV s s.nodes[i].watch=(i:Int):=by
 unfold aV
 have h1:0≤aH s.nodes (fun n=>decide (n.watch=s.nodes[i].watch)):=by
  have:=mV (xs:=s.nodes) (q:=fun n=>decide (n.watch=s.nodes[i].watch))
  have h2:s.nodes.any (fun n=>decide (n.watch=s.nodes[i].watch))=true:=List.any_eq_true.2 ⟨_,List.getElem_mem hi,by simp⟩
  rw[h2]at this
  exact of_decide_eq_true this
 obtain⟨j,hj,e,hq,_⟩:=jS h1
 rw[e,Dq hok hj hi (of_decide_eq_true hq) (by rw[of_decide_eq_true hq];exact h0)]
theorem oW {s:GShow}{i:Nat}(hi:i<s.nodes.length):vS s (i:Int)=s.nodes[i].watch:=by
 unfold vS
 rw[Int.toNat_natCast,List.getElem?_eq_getElem hi];rfl
def wl (s:GShow)(nodes:List Int):List Int:=(nodes.map (vS s)).filter (fun p=>!decide (p=0))
theorem yb (s:GShow)(nodes:List Int):Asc (az s nodes):=by
 have:Asc [1,2,3]:=by unfold Asc;decide
 exact this.filter _
theorem OI {s:GShow}{x:GState}(hok:aF s=true){nodes:List Int}(ha:Asc nodes)(hn:∀ k,k∈nodes→k∈enL s x):(wl s nodes).Nodup∧∀ p,p∈wl s nodes↔p∈az s nodes:=by
 constructor
 ·unfold wl
  rw[List.filter_map]
  unfold List.Nodup
  rw[List.pairwise_map]
  refine List.Pairwise.imp_of_mem ?_ (ha.filter _)
  intro a b h1 h2 hab he
  rw[List.mem_filter]at h1 h2
  obtain⟨i,hi,rfl,_,_⟩:=oV (hn _ h1.1)
  obtain⟨j,hj,rfl,_,_⟩:=oV (hn _ h2.1)
  have h3:=h1.2
  simp only[Function.comp,Bool.not_eq_true',decide_eq_false_iff_not]at h3
  rw[oW hi,oW hj]at he
  rw[oW hi]at h3
  have:=Dq hok hi hj he h3
  omega
 ·intro p
  unfold wl az
  rw[List.mem_filter,List.mem_filter,List.mem_map]
  simp only[Bool.not_eq_true',decide_eq_false_iff_not,decide_eq_true_eq]
  constructor
  ·rintro⟨⟨k,hk,rfl⟩,h0⟩
   obtain⟨i,hi,rfl,_,_⟩:=oV (hn _ hk)
   rw[oW hi]at h0 ⊢
   have hw:=(tw hok hi).2
   refine⟨?_,?_⟩
   ·simp only[List.mem_cons,List.not_mem_nil,or_false];omega
   ·rw[LP hok hi h0];exact hk
  ·rintro⟨h3,hw⟩
   obtain⟨i,hi,e,_,_⟩:=oV (hn _ hw)
   have h0:0≤aV s p:=by omega
   obtain⟨j,hj,e2,hq,_⟩:=jS h0
   have hwp:=of_decide_eq_true hq
   unfold aV at hw
   rw[e2]at hw
   refine⟨⟨(j:Int),hw,by rw[oW hj];exact hwp⟩,?_⟩
   simp only[List.mem_cons,List.not_mem_nil,or_false]at h3
   omega
theorem oH (s:GShow)(nodes:List Int):(az s nodes).length≤3:=by
 have:=List.length_filter_le (fun p=>decide (aV s p∈nodes)) [1,2,3]
 simpa [az] using this
theorem bN {s:GShow}{nodes:List Int}{p:Int}(h:p∈az s nodes):1≤p∧p≤3∧aV s p∈nodes:=by
 unfold az at h
 rw[List.mem_filter]at h
 simp only[List.mem_cons,List.not_mem_nil,or_false,decide_eq_true_eq]at h
 exact⟨by omega,by omega,h.2⟩
theorem wA {s:GShow}{x:GState}(h:MomR s x){nodes:List Int}(ha:Asc nodes)(hl7:nodes.length≤7)(hn:∀ k,k∈nodes→k∈enL s x):iA s x nodes=some (decX x nodes,az s nodes):=by
 have h7:=h.right.nodes
 have hln:=h.len
 have hv:=(bb h.val).1
 unfold iA
 rw[sb x (by omega) (by omega)]
 simp only[obnd]
 have key:aj (jH nodes ((nodes.length:Nat):Int) s.nodes s.ties s.horizon x.now x.times x.values x.now x.values) (((0:Nat):Int),wl s (nodes.take 0),bk (fun k=>k) x.now (nodes.take 0) x.times)=some (wl s nodes,bk (fun k=>k) x.now nodes x.times):=by
  refine aE nodes.length (fun i=>((i:Int),wl s (nodes.take i),bk (fun k=>k) x.now (nodes.take i) x.times)) ?_ ?_
  ·intro i hi
   obtain⟨j,hj,e,_,_⟩:=oV (hn _ (List.getElem_mem hi))
   have hwl:(wl s (nodes.take i)).length≤7:=by
    have:=List.length_filter_le (fun p=>!decide (p=0)) ((nodes.take i).map (vS s))
    rw[List.length_map,List.length_take]at this
    unfold wl;omega
   have hw1:wl s (nodes.take (i+1))=wl s (nodes.take i)++(if s.nodes[j].watch=0 then [] else [s.nodes[j].watch]):=by
    unfold wl
    rw[List.take_succ_eq_append_getElem hi,List.map_append,List.filter_append,e]
    simp only[List.map_cons,List.map_nil]
    rw[oW hj]
    by_cases h0:s.nodes[j].watch=0 <;> simp[h0]
   unfold jH
   simp only
   rw[if_pos (by omega),ao hi,e]
   simp only[obnd]
   rw[bl (ts:=bk (fun k=>k) x.now (nodes.take i) x.times) (by omega) (by rw[ct];omega),ao hj,wr (x:=(i:Int)+1) (by omega) (by omega)]
   simp only
   rw[ai (by omega),ai (by omega),hw1,List.take_succ_eq_append_getElem hi,sY,e]
   by_cases h0:s.nodes[j].watch=0
   ·rw[if_pos h0,if_pos h0,List.append_nil];rfl
   ·rw[if_neg h0,if_neg h0];rfl
  ·unfold jH
   simp only
   rw[if_neg (by omega),List.take_length]
 rw[List.take_zero]at key
 change obnd (aj _ (((0:Nat):Int),wl s [],bk (fun k=>k) x.now [] x.times)) _=_
 rw[key]
 simp only[obnd]
 have hwl:(wl s nodes).length≤7:=by
  have:=List.length_filter_le (fun p=>!decide (p=0)) (nodes.map (vS s))
  rw[List.length_map]at this
  unfold wl;omega
 obtain⟨r,e,hp,hs⟩:=KE (wl s nodes) (by omega)
 obtain⟨w1,w2⟩:=OI h.ok ha hn
 have er:r=az s nodes:=EE (FM hs (hp.nodup_iff.2 w1)) (yb s nodes) (fun y=>by rw[hp.mem_iff,w2])
 rw[e]
 simp only
 rw[ai hp.length_eq,er];rfl
theorem uH {s:GShow}{x:GState}(hs:aM s)(h:MomR s x){nodes:List Int}(hl7:nodes.length≤7)(hn:∀ k,k∈nodes→k∈enL s x):eZ s x nodes=some (decX x nodes,az s nodes):=by
 have h7:=h.right.nodes
 have hln:=h.len
 have hv:=(bb h.val).1
 unfold eZ
 rw[sc x (by omega) (by omega)]
 simp only[obnd]
 have key:aj (gP nodes ((nodes.length:Nat):Int) s.nodes s.ties s.horizon x.now x.times x.values x.now x.values) (((0:Nat):Int),bk (fun k=>k) x.now (nodes.take 0) x.times)=some (bk (fun k=>k) x.now nodes x.times):=by
  refine aE nodes.length (fun i=>((i:Int),bk (fun k=>k) x.now (nodes.take i) x.times)) ?_ ?_
  ·intro i hi
   obtain⟨j,hj,e,_,_⟩:=oV (hn _ (List.getElem_mem hi))
   unfold gP
   simp only
   rw[if_pos (by omega),ao hi,e]
   simp only[obnd]
   rw[bl (ts:=bk (fun k=>k) x.now (nodes.take i) x.times) (by omega) (by rw[ct];omega),wr (x:=(i:Int)+1) (by omega) (by omega),List.take_succ_eq_append_getElem hi,sY,e];rfl
  ·unfold gP
   simp only
   rw[if_neg (by omega),List.take_length]
 rw[List.take_zero]at key
 change obnd (aj _ (((0:Nat):Int),bk (fun k=>k) x.now [] x.times)) _=_
 rw[key]
 simp only[obnd]
 have key2:aj (gQ nodes s.nodes s.ties s.horizon x.now (bk (fun k=>k) x.now nodes x.times) x.values) (((0:Nat):Int)+1,([1,2,3].take 0).filter (fun p=>decide (aV s p∈nodes)))=some (az s nodes):=by
  refine aE 3 (fun i=>((i:Int)+1,([1,2,3].take i).filter (fun p=>decide (aV s p∈nodes)))) ?_ ?_
  ·intro i hi
   have hl:=List.length_filter_le (fun p=>decide (aV s p∈nodes)) ([1,2,3].take i)
   rw[List.length_take]at hl
   have e3:([1,2,3]:List Int)[i]'(by simpa using hi)=(i:Int)+1:=by
    have:i=0∨i=1∨i=2:=by omega
    rcases this with rfl|rfl|rfl <;> rfl
   unfold gQ
   simp only
   rw[if_pos (by omega),show(GShow.mk s.nodes s.ties s.horizon)=s from rfl,dU s _ hs.nodes]
   simp only[obnd]
   rw[oJ _ _ (by unfold Cnt;omega),wr (x:=(i:Int)+1+1) (by omega) (by omega),ai (by omega),ai (by omega),pV _ (by simpa using hi),e3]
   simp only
   change (if decide (aV s ((i:Int)+1)∈nodes)=true then _ else _)=_
   cases decide (aV s ((i:Int)+1)∈nodes)
   ·rw[if_neg (by simp),if_neg (by simp),List.append_nil];rfl
   ·rw[if_pos rfl,if_pos rfl];rfl
  ·unfold gQ
   simp only
   rw[if_neg (by omega)];rfl
 simp only[List.take_zero,List.filter_nil,Int.natCast_zero,Int.zero_add]at key2
 rw[key2];rfl
def setV (ps vs v:List Int)(n:Nat):List Int:=(List.range n).foldl (fun v i=>v.set (ps.getD i 0 - 1).toNat (vs.getD i 0)) v
theorem qR (ps vs v:List Int)(n:Nat):setV ps vs v (n+1)=(setV ps vs v n).set (ps.getD n 0 - 1).toNat (vs.getD n 0):=by
 unfold setV
 rw[List.range_succ,List.foldl_append];rfl
theorem qj (ps vs v:List Int):∀ n,(setV ps vs v n).length=v.length
 | 0=>rfl
 | n+1=>by rw[qR,List.length_set,qj ps vs v n]
def obsX (x:GState)(ps vs:List Int):GState:=⟨x.now+1,x.times,setV ps vs x.values ps.length⟩
theorem nM (x:GState)(ps vs:List Int)(hn:0≤x.now∧x.now≤1000)(h1:x.times.length≤1048576)(h2:x.values.length=3)(hp:∀ p,p∈ps→1≤p∧p≤3)(hl:vs.length=ps.length)(hl2:ps.length≤1000) :
  gb x ps vs=some (obsX x ps vs)∧fa x ps vs=some (obsX x ps vs):=by
 have pb:∀ i,i<ps.length→1≤ps.getD i 0∧ps.getD i 0≤3:=by
  intro i hi
  rw[List.getD_eq_getElem?_getD,List.getElem?_eq_getElem hi]
  exact hp _ (List.getElem_mem hi)
 constructor
 ·unfold gb
  rw[sb x h1 (by omega)]
  simp only[obnd]
  have key:aj (iT vs ps ((ps.length:Nat):Int) x.now x.times) (((0:Nat):Int),setV ps vs x.values 0)=some (setV ps vs x.values ps.length):=by
   refine aE ps.length (fun i=>((i:Int),setV ps vs x.values i)) ?_ ?_
   ·intro i hi
    have hb:=pb i hi
    unfold iT
    simp only
    rw[if_pos (by omega),aR hi,aR (by omega),wr (x:=(i:Int)+1) (by omega) (by omega)]
    simp only[obnd]
    rw[wr (x:=ps.getD i 0 - 1) (by omega) (by omega),bl (ts:=setV ps vs x.values i) (by omega) (by rw[qj];omega)]
    simp only
    rw[qR];rfl
   ·unfold iT
    simp only
    rw[if_neg (by omega)]
  change obnd (aj _ (((0:Nat):Int),setV ps vs x.values 0)) _=_
  rw[key]
  simp only[obnd]
  rw[wr (by omega) (by omega)];rfl
 ·unfold fa
  rw[sc x h1 (by omega)]
  simp only[obnd]
  have key:aj (gR vs ps ((ps.length:Nat):Int) x.now x.times) (((0:Nat):Int),setV ps vs x.values 0)=some (setV ps vs x.values ps.length):=by
   refine aE ps.length (fun i=>((i:Int),setV ps vs x.values i)) ?_ ?_
   ·intro i hi
    have hb:=pb i hi
    unfold gR
    simp only
    rw[if_pos (by omega),aR hi,aR (by omega),wr (x:=(i:Int)+1) (by omega) (by omega)]
    simp only[obnd]
    rw[wr (x:=ps.getD i 0 - 1) (by omega) (by omega),bl (ts:=setV ps vs x.values i) (by omega) (by rw[qj];omega)]
    simp only
    rw[qR];rfl
   ·unfold gR
    simp only
    rw[if_neg (by omega)]
  change obnd (aj _ (((0:Nat):Int),setV ps vs x.values 0)) _=_
  rw[key]
  simp only[obnd]
  rw[wr (by omega) (by omega)];rfl
theorem zx {ps vs v:List Int}(hv:v.length=3)(hp:∀ p,p∈ps→1≤p∧p≤3):∀ n,n≤ps.length→∀ k:Int,0≤k→(∀ i,i<n→ps.getD i 0 - 1≠k)→tm (setV ps vs v n) k=tm v k
 | 0,_,k,_,_=>rfl
 | n+1,hn,k,hk,h=>by
  rw[qR]
  have hb:=hp (ps.getD n 0) (by rw[List.getD_eq_getElem?_getD,List.getElem?_eq_getElem (show n<ps.length by omega)];exact List.getElem_mem _)
  rw[uF _ _ _ _ (by omega) (by rw[qj];omega) hk,if_neg (fun e=>h n (by omega) e.symm)]
  exact zx hv hp n (by omega) k hk (fun i hi=>h i (by omega))
theorem KI {ps vs v:List Int}(hv:v.length=3)(hp:∀ p,p∈ps→1≤p∧p≤3)(hl:vs.length=ps.length):∀ n,n≤ps.length→∀ k:Int,0≤k→(∃ i,i<n∧ps.getD i 0 - 1=k)→tm (setV ps vs v n) k∈vs
 | 0,_,k,_,h=>by obtain⟨i,hi,_⟩:=h;omega
 | n+1,hn,k,hk,h=>by
  rw[qR]
  have hb:=hp (ps.getD n 0) (by rw[List.getD_eq_getElem?_getD,List.getElem?_eq_getElem (show n<ps.length by omega)];exact List.getElem_mem _)
  rw[uF _ _ _ _ (by omega) (by rw[qj];omega) hk]
  by_cases e:k=ps.getD n 0 - 1
  ·rw[if_pos e,List.getD_eq_getElem?_getD,List.getElem?_eq_getElem (show n<vs.length by omega)]
   exact List.getElem_mem _
  ·rw[if_neg e]
   obtain⟨i,hi,he⟩:=h
   exact KI hv hp hl n (by omega) k hk ⟨i,by rcases Nat.lt_or_ge i n with h1|h1;exact h1;exact absurd (by rw[← he,show i=n by omega]) e,he⟩
theorem IE {ps vs v:List Int}{y:Int}:∀ n,y∈setV ps vs v n→y∈v∨∃ i,i<n∧y=vs.getD i 0
 | 0,h=>.inl h
 | n+1,h=>by
  rw[qR]at h
  rcases List.mem_or_eq_of_mem_set h with h|h
  ·rcases IE n h with h|⟨i,hi,h⟩
   ·exact .inl h
   ·exact .inr ⟨i,by omega,h⟩
  ·exact .inr ⟨n,by omega,h⟩
theorem vT {s:GShow}{x:GState}(h:MomR s x){nodes:List Int}(hn:∀ k,k∈nodes→k∈enL s x){vs:List Int}(hl:vs.length=(az s nodes).length)(hv:∀ v,v∈vs→v=1∨v=-1) :
  aC s (obsX (decX x nodes) (az s nodes) vs)=true:=by
 have h7:=h.right.nodes
 have hln:=h.len
 obtain⟨v1,v2⟩:=bb h.val
 have hnx:=h.nxt
 have hp:∀ p,p∈az s nodes→1≤p∧p≤3:=fun p hp=>⟨(bN hp).1,(bN hp).2.1⟩
 have htm:∀ {i:Int},0≤i→tm (bk (fun k=>k) x.now nodes x.times) i=if i∈nodes then x.now else tm x.times i:=by
  intro i hi
  rw[vc _ _ _ _ _ hi (fun k hk=>by obtain⟨j,hj,e,_,_⟩:=oV (hn k hk);omega),List.map_id']
 unfold aC at hnx
 simp only[Bool.and_eq_true,decide_eq_true_eq]at hnx
 obtain⟨⟨⟨⟨⟨a1,a2⟩,a3⟩,a4⟩,a5⟩,a6⟩:=hnx
 have hT:(obsX (decX x nodes) (az s nodes) vs).times=bk (fun k=>k) x.now nodes x.times:=rfl
 have hN:(obsX (decX x nodes) (az s nodes) vs).now=x.now+1:=rfl
 have hV:(obsX (decX x nodes) (az s nodes) vs).values=setV (az s nodes) vs x.values (az s nodes).length:=rfl
 unfold aC
 simp only[Bool.and_eq_true,decide_eq_true_eq]
 refine⟨⟨⟨⟨⟨h.ok,?_⟩,?_⟩,?_⟩,?_⟩,?_⟩
 ·rw[hN];have:=h.now;omega
 ·rw[hT,ct];exact hln
 ·rw[hV]
  unfold ce
  rw[Bool.and_eq_true,decide_eq_true_eq,List.all_eq_true,qj]
  refine⟨v1,?_⟩
  intro y hy
  rcases IE _ hy with h1|⟨i,hi,rfl⟩
  ·exact decide_eq_true (v2 y h1)
  ·have:=hv (vs.getD i 0) (by rw[List.getD_eq_getElem?_getD,List.getElem?_eq_getElem (show i<vs.length by omega)];exact List.getElem_mem _)
   exact decide_eq_true (by omega)
 ·intro i hi
  rw[hT,ct]at hi
  have h5:=a5 i hi
  unfold kF at h5 ⊢
  rw[hT,hN]
  change (if i=0 then decide (tm x.times 0=0) else decide (-1≤tm x.times i∧tm x.times i≤x.now+1 - 1))=true at h5
  by_cases h0:i=0
  ·rw[if_pos h0]at h5 ⊢
   rw[htm (Int.le_refl 0),if_neg (fun hm=>by obtain⟨j,_,e,hj,_⟩:=oV (hn _ hm);omega)]
   exact h5
  ·rw[if_neg h0]at h5 ⊢
   rw[decide_eq_true_eq]at h5 ⊢
   rw[htm (by omega)]
   have:=h.now
   split <;> omega
 ·intro i hi
  have h6:=a6 i hi
  unfold jJ at h6 ⊢
  rw[hT,hV]
  change (decide (tm x.values i≠0) == (decide (0≤aV s ((i:Int)+1))&&decide (tm x.times (aV s ((i:Int)+1))≠-1)))=true at h6
  change (decide (tm (setV (az s nodes) vs x.values (az s nodes).length) i≠0) == (decide (0≤aV s ((i:Int)+1))&&decide (tm (bk (fun k=>k) x.now nodes x.times) (aV s ((i:Int)+1))≠-1)))=true
  by_cases hw:0≤aV s ((i:Int)+1)
  ·rw[decide_eq_true hw,Bool.true_and,htm hw]
   rw[decide_eq_true hw,Bool.true_and]at h6
   by_cases hm:aV s ((i:Int)+1)∈nodes
   ·rw[if_pos hm,decide_eq_true (show x.now≠-1 by have:=h.now;omega)]
    have hpm:(i:Int)+1∈az s nodes:=by
     unfold az
     rw[List.mem_filter]
     unfold cA at hi
     refine⟨?_,decide_eq_true hm⟩
     simp only[List.mem_cons,List.not_mem_nil,or_false]
     omega
    obtain⟨j,hj,e⟩:=List.getElem_of_mem hpm
    have hin:=KI v1 hp hl _ (Nat.le_refl _) (i:Int) (by omega) ⟨j,hj,by rw[List.getD_eq_getElem?_getD,List.getElem?_eq_getElem hj,e,Option.getD_some];omega⟩
    have:=hv _ hin
    rw[decide_eq_true (show tm (setV (az s nodes) vs x.values (az s nodes).length) i≠0 by omega)];rfl
   ·rw[if_neg hm,zx v1 hp _ (Nat.le_refl _) _ (by omega)]
    ·exact h6
    ·intro j hj he
     refine hm ?_
     have:=(bN (s:=s) (nodes:=nodes) (p:=(az s nodes).getD j 0) (by rw[List.getD_eq_getElem?_getD,List.getElem?_eq_getElem hj];exact List.getElem_mem _)).2.2
     rwa [show(az s nodes).getD j 0=(i:Int)+1 by omega]at this
  ·rw[decide_eq_false hw]at h6 ⊢
   rw[zx v1 hp _ (Nat.le_refl _) _ (by omega)]
   ·simpa using h6
   ·intro j hj he
    have:=(bN (s:=s) (nodes:=nodes) (p:=(az s nodes).getD j 0) (by rw[List.getD_eq_getElem?_getD,List.getElem?_eq_getElem hj];exact List.getElem_mem _)).2.2
    rw[show(az s nodes).getD j 0=(i:Int)+1 by omega]at this
    obtain⟨q,hq,e,_,_⟩:=oV (hn _ this)
    omega
end Go.Proofs.Qc
set_option maxRecDepth 100000
namespace Go.Proofs.Qc
open Go
def mD:GState:=⟨0,[],[]⟩
def sgn (x:Int):Int:=if x<0 then -1 else 1
def vU (s:GShow)(x:GState)(e:GEntry):Prop:=e.now=x.now∧e.ties∈bD s x∧bL e.values=true∧e.nodes∈decL s (endX s x e.ties)∧e.values.map pr=az s e.nodes
noncomputable instance (s:GShow) (x:GState) (e:GEntry):Decidable (vU s x e):=Classical.propDecidable _
noncomputable def fS (s:GShow)(x:GState)(e:GEntry):GState × Bool:=
 if vU s x e then (obsX (decX (endX s x e.ties) e.nodes) (az s e.nodes) (e.values.map sgn),true) else (mD,false)
theorem IF {x:Int}(h0:x≠0)(h1:-3≤x)(h2:x≤3):(0≤x→pr x=x)∧(x<0→pr x=0 - x)∧Int.tdiv x (pr x)=sgn x∧IntKind.wrap .i64 (Int.tdiv x (pr x))=sgn x:=by
 have key:∀ y:Int,y=-3∨y=-2∨y=-1∨y=1∨y=2∨y=3→(0≤y→pr y=y)∧(y<0→pr y=0 - y)∧Int.tdiv y (pr y)=sgn y∧IntKind.wrap .i64 (Int.tdiv y (pr y))=sgn y:=by
  intro y hy
  rcases hy with rfl|rfl|rfl|rfl|rfl|rfl <;> decide
 exact key x (by omega)
theorem wB {l:List Int}(h:bL l=true){x:Int}(hx:x∈l):x≠0∧-3≤x∧x≤3∧1≤pr x∧pr x≤3:=by
 obtain⟨h1,h2,h3⟩:=yl h hx
 have h4:=ID h2 h3
 refine⟨?_,h2,h3,by omega,h4⟩
 rintro rfl
 have:pr 0=0:=rfl
 omega
theorem EJ {l:List Int}(h:bL l=true)(hc:l.length≤1048576):l.length≤3:=by
 have hasc:Asc (l.map pr):=by
  unfold Asc
  rw[List.pairwise_iff_getElem]
  intro i j hi hj hij
  rw[List.length_map]at hi hj
  simp only[List.getElem_map]
  have hl:=h
  unfold bL at hl
  rw[decide_eq_true_eq]at hl
  have step:∀ n (hn:n+1<l.length),pr (l[n]'(by omega))<pr l[n+1]:=by
   intro n hn
   have:=hl (n+1) hn
   unfold labP at this
   rw[decide_eq_true_eq]at this
   have:=this.2.2.2 (by omega)
   rw[List.getD_eq_getElem?_getD,List.getD_eq_getElem?_getD,show n+1 - 1=n by omega,List.getElem?_eq_getElem (by omega),List.getElem?_eq_getElem hn]at this
   exact this
  have mono:∀ k,∀ hk:i+k+1<l.length,pr (l[i]'(by omega))<pr l[i+k+1]:=by
   intro k
   induction k with
   | zero=>intro hk;exact step i hk
   | succ k ih=>
    intro hk
    have h1:=ih (by omega)
    have h2:=step (i+k+1) hk
    show pr l[i]<pr l[i+k+1+1]
    omega
  have:=mono (j - i - 1) (by omega)
  have e:i+(j - i - 1)+1=j:=by omega
  simp only[e]at this
  exact this
 have:=vb (r:=[1,2,3]) hasc.nodup (fun y hy=>by
  rw[List.mem_map]at hy
  obtain⟨x,hx,rfl⟩:=hy
  obtain⟨_,_,_,h1,h2⟩:=wB h hx
  simp only[List.mem_cons,List.not_mem_nil,or_false]
  omega)
 simpa using this
theorem pW {s:GShow}{x:GState}(h:aC s x=true):aF s=true∧x.values.length=3∧x.times.length≤7:=by
 have hR:=cF h
 have hl:=hR.len
 have h7:=hR.right.nodes
 unfold aC at h
 simp only[Bool.and_eq_true]at h
 exact⟨h.1.1.1.1.1,(bb h.1.1.2).1,by omega⟩
theorem LQ {s:GShow}{x:GState}{e:GEntry}(hs:aM s)(hx:aC s x=true)(he:FitE e):oE s x e=some (fS s x e):=by
 obtain⟨hok,hv3,ht7⟩:=pW hx
 have e1:=he.ties
 have e2:=he.nodes
 have e3:=he.values
 have hel:=tu hok (x:=x)
 unfold oE
 have no:¬ vU s x e→some ((GState.mk 0 ([]) ([])),false)=some (fS s x e):=fun h=>by unfold fS;rw[if_neg h];rfl
 by_cases h1:e.now=x.now
 ·rw[if_pos h1,wx hx]
  simp only[obnd]
  rw[Bm _ _ (by unfold Cnt;omega) (by unfold Cnt;omega)]
  simp only
  by_cases h2:e.ties∈bD s x
  ·rw[if_pos (decide_eq_true h2),oI _ (by unfold Cnt;omega)]
   simp only
   obtain⟨a1,a2,a3⟩:=kB hok h2
   have hm:=vd (wz hx a1 a3)
   by_cases h3:bL e.values=true
   ·rw[if_pos h3,Bo hx (by omega) (by omega) a3]
    simp only
    rw[uG hs hm]
    simp only
    have hdl:=sQ hm.right (endX s x e.ties)
    rw[Bm _ _ (by unfold Cnt;omega) (by unfold Cnt;omega)]
    simp only
    by_cases h4:e.nodes∈decL s (endX s x e.ties)
    ·rw[if_pos (decide_eq_true h4)]
     obtain⟨b1,b2,b3⟩:=dQ hm.right h4
     rw[wA hm b1 b2 b3]
     simp only
     have hl3:=EJ h3 e3
     have key:aj (ls e.values ((e.values.length:Nat):Int) (decX (endX s x e.ties) e.nodes).now (decX (endX s x e.ties) e.nodes).times (decX (endX s x e.ties) e.nodes).values (az s e.nodes)) (((0:Nat):Int),(e.values.take 0).map pr,(e.values.take 0).map sgn)=some (e.values.map pr,e.values.map sgn):=by
      refine aE e.values.length (fun i=>((i:Int),(e.values.take i).map pr,(e.values.take i).map sgn)) ?_ ?_
      ·intro i hi
       obtain⟨v1,v2,v3,v4,v5⟩:=wB h3 (List.getElem_mem hi)
       obtain⟨_,_,_,w4⟩:=IF v1 v2 v3
       unfold ls
       simp only
       rw[if_pos (by omega),ao hi]
       simp only[obnd]
       rw[qT]
       simp only
       rw[ai (by rw[List.length_map,List.length_take];omega),ai (by rw[List.length_map,List.length_take];omega),ai (by omega),ai (by rw[List.length_map,List.length_take];omega),ai (by rw[List.length_map,List.length_take];omega),wr (x:=(i:Int)+1) (by omega) (by omega),w4,List.take_succ_eq_append_getElem hi,List.map_append,List.map_append];rfl
      ·unfold ls
       simp only
       rw[if_neg (by omega),List.take_length]
     simp only[List.take_zero,List.map_nil,Int.natCast_zero]at key
     rw[key]
     simp only
     rw[tz _ _ (by unfold Cnt;rw[List.length_map];omega)]
     simp only
     by_cases h5:e.values.map pr=az s e.nodes
     ·rw[if_pos (decide_eq_true h5)]
      have hnow:=hm.now
      have hh:=hm.right.hor
      have hpl:=oH s e.nodes
      have hn:0≤(decX (endX s x e.ties) e.nodes).now∧(decX (endX s x e.ties) e.nodes).now≤1000:=by
       show 0≤(endX s x e.ties).now∧(endX s x e.ties).now≤1000
       omega
      have hobs:=(nM (decX (endX s x e.ties) e.nodes) (az s e.nodes) (e.values.map sgn) hn (by show(bk _ _ _ (bk _ _ _ _)).length≤_;rw[ct,ct];omega) hv3 (fun p hp=>⟨(bN hp).1,(bN hp).2.1⟩) (by rw[← h5,List.length_map,List.length_map]) (by omega)).1
      rw[hobs]
      simp only
      unfold fS
      rw[if_pos ⟨h1,h2,h3,h4,h5⟩]
     ·rw[if_neg (by rw[decide_eq_false h5];simp)]
      exact no (fun h=>h5 h.2.2.2.2)
    ·rw[if_neg (by rw[decide_eq_false h4];simp)]
     exact no (fun h=>h4 h.2.2.2.1)
   ·rw[if_neg h3]
    exact no (fun h=>h3 h.2.2.1)
  ·rw[if_neg (by rw[decide_eq_false h2];simp)]
   exact no (fun h=>h2 h.2.1)
 ·rw[if_neg h1]
  exact no (fun h=>h1 h.1)
theorem LR {s:GShow}{x:GState}{e:GEntry}(hs:aM s)(hx:aC s x=true)(he:FitE e):lg s x e=some (fS s x e):=by
 obtain⟨hok,hv3,ht7⟩:=pW hx
 have e1:=he.ties
 have e2:=he.nodes
 have e3:=he.values
 have hel:=tu hok (x:=x)
 unfold lg dl
 have no:¬ vU s x e→some ((GState.mk 0 ([]) ([])),false)=some (fS s x e):=fun h=>by unfold fS;rw[if_neg h];rfl
 rw[xY hs hx (by omega) (by omega)]
 simp only[obnd]
 rw[Bn _ _ (by unfold Cnt;omega) (fun y hy=>by obtain⟨_,h2,_⟩:=kB hok hy;unfold Cnt;omega)]
 simp only
 by_cases h2:e.ties∈bD s x
 ·rw[if_pos (decide_eq_true h2)]
  obtain⟨a1,a2,a3⟩:=kB hok h2
  have hm:=vd (wz hx a1 a3)
  rw[xZ hx (by omega) (by omega) a3]
  simp only[if_true]
  by_cases h1:e.now=x.now
  ·rw[if_pos h1,si _ (by unfold Cnt;omega)]
   simp only
   by_cases h3:bL e.values=true
   ·rw[if_pos h3]
    unfold jP
    rw[vR hs hm]
    simp only[obnd]
    have hdl:=sQ hm.right (endX s x e.ties)
    rw[Bn _ _ (by unfold Cnt;omega) (fun y hy=>by obtain⟨_,h2,_⟩:=dQ hm.right hy;unfold Cnt;omega)]
    simp only
    by_cases h4:e.nodes∈decL s (endX s x e.ties)
    ·rw[if_pos (decide_eq_true h4)]
     obtain⟨b1,b2,b3⟩:=dQ hm.right h4
     rw[uH hs hm b2 b3]
     simp only[if_true]
     have hl3:=EJ h3 e3
     have hpl:=oH s e.nodes
     by_cases h6:((az s e.nodes).length:Int)=(e.values.length:Int)
     ·rw[if_pos h6]
      have key:aj (fH (((az s e.nodes).length:Nat):Int) e.now e.ties e.nodes e.values (decX (endX s x e.ties) e.nodes).now (decX (endX s x e.ties) e.nodes).times (decX (endX s x e.ties) e.nodes).values (az s e.nodes)) (((0:Nat):Int),(e.values.take 0).map sgn)=some (if ∀ i,i<e.values.length→decide (pr (e.values.getD i 0)=(az s e.nodes).getD i 0)=true then .inl (e.values.map sgn) else .inr ((GState.mk 0 ([]) ([])),false)):=by
       refine bn e.values.length (fun i=>((i:Int),(e.values.take i).map sgn)) (fun i=>decide (pr (e.values.getD i 0)=(az s e.nodes).getD i 0)) ?_ ?_ ?_
       ·intro i hi hp
        rw[decide_eq_true_eq]at hp
        obtain⟨v1,v2,v3,v4,v5⟩:=wB h3 (List.getElem_mem hi)
        obtain⟨w1,w2,w3,w4⟩:=IF v1 v2 v3
        have ed:e.values.getD i 0=e.values[i]:=by rw[List.getD_eq_getElem?_getD,List.getElem?_eq_getElem hi];rfl
        rw[ed]at hp
        unfold fH
        simp only
        rw[if_pos (by omega),aR (show i<(az s e.nodes).length by omega),ao hi]
        simp only[obnd]
        rw[← hp,ai (by rw[List.length_map,List.length_take];omega),ai (by rw[List.length_map,List.length_take];omega),wr (x:=(i:Int)+1) (by omega) (by omega),wr (x:=0 - pr e.values[i]) (by omega) (by omega),List.take_succ_eq_append_getElem hi,List.map_append]
        by_cases hneg:e.values[i]<0
        ·have:=w2 hneg
         rw[if_pos (by omega)]
         have es:sgn e.values[i]=-1:=by unfold sgn;rw[if_pos hneg]
         simp only[List.map_cons,List.map_nil,es];rfl
        ·have:=w1 (by omega)
         rw[if_neg (by omega),if_pos (by omega),ai (by rw[List.length_map,List.length_take];omega),ai (by rw[List.length_map,List.length_take];omega)]
         have es:sgn e.values[i]=1:=by unfold sgn;rw[if_neg hneg]
         simp only[List.map_cons,List.map_nil,es];rfl
       ·intro i hi hp
        rw[decide_eq_false_iff_not]at hp
        obtain⟨v1,v2,v3,v4,v5⟩:=wB h3 (List.getElem_mem hi)
        obtain⟨w1,w2,w3,w4⟩:=IF v1 v2 v3
        have ed:e.values.getD i 0=e.values[i]:=by rw[List.getD_eq_getElem?_getD,List.getElem?_eq_getElem hi];rfl
        rw[ed]at hp
        have hpm:=bN (s:=s) (nodes:=e.nodes) (p:=(az s e.nodes).getD i 0) (by rw[List.getD_eq_getElem?_getD,List.getElem?_eq_getElem (show i<(az s e.nodes).length by omega)];exact List.getElem_mem _)
        unfold fH
        simp only
        rw[if_pos (by omega),aR (show i<(az s e.nodes).length by omega),ao hi]
        simp only[obnd]
        rw[wr (x:=0 - (az s e.nodes).getD i 0) (by omega) (by omega)]
        by_cases hneg:e.values[i]<0
        ·have:=w2 hneg
         rw[if_neg (by omega),if_neg (by omega)]
        ·have:=w1 (by omega)
         rw[if_neg (by omega),if_neg (by omega)]
       ·unfold fH
        simp only
        rw[if_neg (by omega),List.take_length]
      simp only[List.take_zero,List.map_nil,Int.natCast_zero]at key
      rw[key]
      have heq:(∀ i,i<e.values.length→decide (pr (e.values.getD i 0)=(az s e.nodes).getD i 0)=true)↔e.values.map pr=az s e.nodes:=by
       constructor
       ·intro h
        refine List.ext_getElem (by rw[List.length_map];omega) ?_
        intro i hi1 hi2
        rw[List.length_map]at hi1
        have:=h i hi1
        rw[decide_eq_true_eq,List.getD_eq_getElem?_getD,List.getElem?_eq_getElem hi1,List.getD_eq_getElem?_getD,List.getElem?_eq_getElem hi2]at this
        simpa using this
       ·intro h i hi
        rw[decide_eq_true_eq,← h,List.getD_eq_getElem?_getD,List.getD_eq_getElem?_getD,List.getElem?_map,List.getElem?_eq_getElem hi];rfl
      by_cases h5:e.values.map pr=az s e.nodes
      ·rw[if_pos (heq.2 h5)]
       simp only
       have hnow:=hm.now
       have hh:=hm.right.hor
       have hn:0≤(decX (endX s x e.ties) e.nodes).now∧(decX (endX s x e.ties) e.nodes).now≤1000:=by
        show 0≤(endX s x e.ties).now∧(endX s x e.ties).now≤1000
        omega
       have hobs:=(nM (decX (endX s x e.ties) e.nodes) (az s e.nodes) (e.values.map sgn) hn (by show(bk _ _ _ (bk _ _ _ _)).length≤_;rw[ct,ct];omega) hv3 (fun p hp=>⟨(bN hp).1,(bN hp).2.1⟩) (by rw[← h5,List.length_map,List.length_map]) (by omega)).2
       rw[hobs]
       simp only
       unfold fS
       rw[if_pos ⟨h1,h2,h3,h4,h5⟩]
      ·rw[if_neg (fun h=>h5 (heq.1 h))]
       exact no (fun h=>h5 h.2.2.2.2)
     ·rw[if_neg h6]
      exact no (fun h=>h6 (by rw[← h.2.2.2.2,List.length_map]))
    ·rw[if_neg (by rw[decide_eq_false h4];simp)]
     simp only
     rw[if_neg (by simp)]
     exact no (fun h=>h4 h.2.2.2.1)
   ·rw[if_neg h3]
    exact no (fun h=>h3 h.2.2.1)
  ·rw[if_neg h1]
   exact no (fun h=>h1 h.1)
 ·rw[if_neg (by rw[decide_eq_false h2];simp)]
  simp only
  rw[if_neg (by simp)]
  exact no (fun h=>h2 h.2.1)
theorem KJ {s:GShow}{x:GState}{e:GEntry}(hx:aC s x=true)(h:(fS s x e).2=true):aC s (fS s x e).1=true:=by
 obtain⟨hok,hv3,ht7⟩:=pW hx
 unfold fS at h ⊢
 by_cases he:vU s x e
 ·rw[if_pos he]
  obtain⟨h1,h2,h3,h4,h5⟩:=he
  obtain⟨a1,a2,a3⟩:=kB hok h2
  have hm:=vd (wz hx a1 a3)
  obtain⟨b1,b2,b3⟩:=dQ hm.right h4
  refine vT hm b3 (by rw[← h5,List.length_map,List.length_map]) ?_
  intro v hv
  rw[List.mem_map]at hv
  obtain⟨y,_,rfl⟩:=hv
  unfold sgn
  split
  ·exact .inr rfl
  ·exact .inl rfl
 ·rw[if_neg he]at h;cases h
noncomputable def bT (s:GShow):GState→List GEntry→GState × Bool
 | x,[]=>(x,true)
 | x,e::r=>if (fS s x e).2=true then bT s (fS s x e).1 r else (mD,false)
noncomputable def iB (s:GShow)(log:List GEntry):GState × Bool:=if aF s=true then bT s (eN s) log else (mD,false)
theorem FQ {s:GShow}:∀ (log:List GEntry) (x:GState),aC s x=true→(bT s x log).2=true→aC s (bT s x log).1=true
 | [],x,hx,_=>hx
 | e::r,x,hx,h=>by
  unfold bT at h ⊢
  by_cases he:(fS s x e).2=true
  ·rw[if_pos he]at h ⊢
   exact FQ r _ (KJ hx he) h
  ·rw[if_neg he]at h;cases h
theorem ve {s:GShow}:∀ (log:List GEntry) (x:GState),(bT s x log).2=false→bT s x log=(mD,false)
 | [],x,h=>by cases h
 | e::r,x,h=>by
  unfold bT at h ⊢
  by_cases he:(fS s x e).2=true
  ·rw[if_pos he]at h ⊢
   exact ve r _ h
  ·rw[if_neg he]
theorem Bp {s:GShow}(h:aF s=true):aC s (eN s)=true:=by
 have hR:=bC h
 have h1:=hR.node1
 have hh:=hR.hor
 have hl:(eN s).times.length=s.nodes.length:=uf _
 have htm:∀ i:Nat,i<s.nodes.length→tm (eN s).times (i:Int)=if i=0 then 0 else -1:=by
  have key:∀ n i:Nat,i<n→(stL n)[i]?=some (if i=0 then 0 else -1):=by
   intro n
   induction n with
   | zero=>intro i hi;omega
   | succ n ih=>
    intro i hi
    cases n with
    | zero=>
     obtain rfl:i=0:=by omega
     rfl
    | succ n=>
     rw[Ir]
     by_cases hlt:i<n+1
     ·rw[List.getElem?_append_left (by rw[uf];exact hlt)]
      exact ih i hlt
     ·obtain rfl:i=n+1:=by omega
      rw[List.getElem?_append_right (by rw[uf];exact Nat.le_refl _),uf,Nat.sub_self,if_neg (by omega)];rfl
  intro i hi
  unfold tm
  rw[Int.toNat_natCast,show(eN s).times=stL s.nodes.length from rfl,key _ i hi];rfl
 unfold aC
 simp only[Bool.and_eq_true,decide_eq_true_eq]
 refine⟨⟨⟨⟨⟨h,?_⟩,hl⟩,?_⟩,?_⟩,?_⟩
 ·show 0≤(0:Int)∧(0:Int)≤s.horizon+1;omega
 ·show ce [0,0,0]=true;decide
 ·intro i hi
  unfold kF
  have e:=htm i (by omega)
  by_cases h0:i=0
  ·subst h0
   rw[if_pos rfl]
   rw[if_pos rfl]at e
   exact decide_eq_true e
  ·rw[if_neg h0]
   rw[if_neg h0]at e
   rw[e]
   exact decide_eq_true ⟨by omega,by show(-1:Int)≤0 - 1;omega⟩
 ·intro i hi
  unfold jJ
  have ev:tm (eN s).values (i:Int)=0:=by
   unfold cA at hi
   have:i=0∨i=1∨i=2:=by omega
   rcases this with rfl|rfl|rfl <;> rfl
  rw[ev]
  by_cases hw:0≤aH s.nodes (fun n=>decide (n.watch=(i:Int)+1))
  ·obtain⟨j,hj,e,hq,_⟩:=jS hw
   have hj0:j≠0:=by
    rintro rfl
    have hf:=h
    unfold aF lE at hf
    simp only[Bool.and_eq_true]at hf
    have hf:=hf.1.1.1.1.1.2
    unfold ui at hf
    rw[List.getElem?_eq_getElem hj]at hf
    simp only[Option.any_some,Bool.and_eq_true,decide_eq_true_eq]at hf
    have:=of_decide_eq_true hq
    omega
   rw[e,htm j hj,if_neg hj0]
   simp
  ·rw[decide_eq_false hw];simp
theorem AU {s:GShow}(log:List GEntry)(hl:log.length≤1048576)(body:(Int × Int × (List Int) × (List Int))→Option (Step (Int × Int × (List Int) × (List Int)) (Sum (Int × (List Int) × (List Int)) (GState × Bool))))
  (h1:∀ (i:Nat) (hi:i<log.length) (x:GState),aC s x=true→body ((i:Int),x.now,x.times,x.values)=(if (fS s x log[i]).2=true then some (.next (((i+1:Nat):Int),(fS s x log[i]).1.now,(fS s x log[i]).1.times,(fS s x log[i]).1.values)) else some (.done (.inr (mD,false)))))
  (h2:∀ x:GState,body ((log.length:Nat),x.now,x.times,x.values)=some (.done (.inl (x.now,x.times,x.values)))) :
  ∀ (n i:Nat),i+n=log.length→∀ x,aC s x=true→aj body ((i:Int),x.now,x.times,x.values)=some (if (bT s x (log.drop i)).2=true then .inl ((bT s x (log.drop i)).1.now,(bT s x (log.drop i)).1.times,(bT s x (log.drop i)).1.values) else .inr (mD,false)):=by
 intro n
 induction n with
 | zero=>
  intro i hi x hx
  obtain rfl:i=log.length:=by omega
  rw[ba,h2,List.drop_length]
  rfl
 | succ n ih=>
  intro i hi x hx
  have hi':i<log.length:=by omega
  rw[ba,h1 i hi' x hx,List.drop_eq_getElem_cons hi']
  by_cases he:(fS s x log[i]).2=true
  ·rw[if_pos he]
   simp only
   rw[ih (i+1) (by omega) _ (KJ hx he)]
   simp only[bT,if_pos he]
  ·rw[if_neg he]
   simp only[bT,if_neg he]
   rfl
theorem EK (s:GShow)(log:List GEntry)(hf:FitS s)(hl:log.length≤1048576)(he:∀ e,e∈log→FitE e):ky s log=some (iB s log):=by
 have hs:=hf.small
 unfold ky iB
 rw[lM s hs]
 simp only[obnd]
 by_cases hok:aF s=true
 ·rw[if_pos hok,if_pos hok,uZ s hs hok]
  simp only
  have hst:=Bp hok
  have key:=AU (s:=s) log hl (gZ log ((log.length:Nat):Int) s.nodes s.ties s.horizon) ?_ ?_ log.length 0 (by omega) (eN s) hst
  ·rw[List.drop_zero]at key
   rw[show(0:Int)=((0:Nat):Int) from rfl,key]
   cases h2:(bT s (eN s) log).2
   ·rw[if_neg (by simp)]
    simp only
    rw[ve _ _ h2]
   ·rw[if_pos rfl]
    simp only
    generalize hr:bT s (eN s) log=q at h2
    obtain⟨y,b⟩:=q
    simp only at h2
    subst h2
    rfl
  ·intro i hi x hx
   unfold gZ
   simp only
   rw[if_pos (by omega),ao hi,wr (x:=(i:Int)+1) (by omega) (by omega)]
   simp only[obnd]
   rw[show(GShow.mk s.nodes s.ties s.horizon)=s from rfl,show(GState.mk x.now x.times x.values)=x from rfl,LQ hs hx (he _ (List.getElem_mem hi))]
   rfl
  ·intro x
   unfold gZ
   simp only
   rw[if_neg (by omega)]
 ·rw[if_neg hok,if_neg hok];rfl
theorem IG (s:GShow)(log:List GEntry)(hf:FitS s)(hl:log.length≤1048576)(he:∀ e,e∈log→FitE e)(hok:aF s=true):km s log=some (iB s log):=by
 have hs:=hf.small
 unfold km iB
 rw[va s hs hok]
 simp only[obnd]
 have hst:=Bp hok
 have key:=AU (s:=s) log hl (gS log ((log.length:Nat):Int) s.nodes s.ties s.horizon) ?_ ?_ log.length 0 (by omega) (eN s) hst
 ·rw[List.drop_zero]at key
  rw[show(0:Int)=((0:Nat):Int) from rfl,key,if_pos hok]
  cases h2:(bT s (eN s) log).2
  ·rw[if_neg (by simp)]
   simp only
   rw[ve _ _ h2]
  ·rw[if_pos rfl]
   simp only
   rw[eR s hs,hok]
   simp only
   generalize hr:bT s (eN s) log=q at h2
   obtain⟨y,b⟩:=q
   simp only at h2
   subst h2
   rfl
 ·intro i hi x hx
  unfold gS
  simp only
  rw[if_pos (by omega),ao hi,wr (x:=(i:Int)+1) (by omega) (by omega)]
  simp only[obnd]
  rw[show(GShow.mk s.nodes s.ties s.horizon)=s from rfl,show(GState.mk x.now x.times x.values)=x from rfl,LR hs hx (he _ (List.getElem_mem hi))]
  rfl
 ·intro x
  unfold gS
  simp only
  rw[if_neg (by omega)]
end Go.Proofs.Qc
set_option maxRecDepth 100000
namespace Go.Proofs.Qc
open Go
theorem IH {s:GShow}(log:List GEntry):((iB s log).2=true∧aC s (iB s log).1=true)∨iB s log=(mD,false):=by
 unfold iB
 by_cases h:aF s=true
 ·rw[if_pos h]
  cases h2:(bT s (eN s) log).2
  ·exact .inr (ve _ _ h2)
  ·exact .inl ⟨rfl,FQ _ _ (Bp h) h2⟩
 ·rw[if_neg h];exact .inr rfl
theorem Dr (s:GShow)(log:List GEntry):FitX (iB s log).1:=by
 rcases IH (s:=s) log with ⟨_,h⟩|h
 ·obtain⟨_,h2,h3⟩:=pW h
  exact⟨by omega,by omega⟩
 ·rw[h];exact⟨by simp[mD],by simp[mD]⟩
noncomputable def lB (d:GDesk):Bool:=aC d.show_ d.state&&decide ((d.log.length:Int)=d.state.now)&&(iB d.show_ d.log).2&&decide ((iB d.show_ d.log).1=d.state)
theorem AW (d:GDesk)(h:FitD d):kO d=some (lB d):=by
 have x1:=h.st.times
 have x2:=h.st.values
 unfold kO lB
 rw[uA _ _ h.sh.small x1 x2]
 simp only[obnd]
 cases aC d.show_ d.state
 ·rfl
 ·rw[if_pos rfl]
  by_cases hn:(d.log.length:Int)=d.state.now
  ·rw[if_pos hn,EK _ _ h.sh h.log h.entry,decide_eq_true hn]
   simp only
   cases hr:(iB d.show_ d.log).2
   ·rfl
   ·rw[if_pos rfl,Dl _ _ (Dr _ _)];rfl
  ·rw[if_neg hn,decide_eq_false hn];rfl
theorem AX (d:GDesk)(h:FitD d):kM d=some (lB d):=by
 have x1:=h.st.times
 have x2:=h.st.values
 unfold kM lB
 rw[rY _ _ h.sh.small x1 x2]
 simp only[obnd]
 cases hst:aC d.show_ d.state
 ·rfl
 ·have hok:=(pW hst).1
  rw[if_pos rfl]
  by_cases hn:(d.log.length:Int)=d.state.now
  ·rw[if_pos hn,IG _ _ h.sh h.log h.entry hok,decide_eq_true hn]
   simp only
   cases hr:(iB d.show_ d.log).2
   ·rfl
   ·rw[if_pos rfl,Dm _ _ (Dr _ _)];rfl
  ·rw[if_neg hn,decide_eq_false hn];rfl
end Go.Proofs.Qc
set_option maxRecDepth 100000
namespace Go.Proofs.Qc
open Go
theorem Nl {l v:List Int}(hv:ce v=true)(hl:bL l=true):-1≤dc l v∧dc l v≤1:=by
 obtain⟨h3,hb⟩:=bb hv
 have tmb:∀ k:Int,-1≤tm v k∧tm v k≤1:=by
  intro k
  unfold tm
  cases hk:v[k.toNat]? with
  | none=>simp
  | some y=>exact hb y (List.mem_of_getElem? hk)
 unfold dc
 have key:∀ (l:List Int) (o:Int),-1≤o∧o≤1→-1≤l.foldl (fun o x=>if litV v x<o then litV v x else o) o∧l.foldl (fun o x=>if litV v x<o then litV v x else o) o≤1:=by
  intro l
  induction l with
  | nil=>intro o h;exact h
  | cons x l ih=>
   intro o h
   simp only[List.foldl_cons]
   refine ih _ ?_
   have:=tmb (pr x - 1)
   unfold litV
   split <;> split <;> omega
 exact key l 1 (by omega)
structure StR (s:GShow) (x:GState):Prop where
 ok:aF s=true
 right:rX s
 len:x.times.length=s.nodes.length
 val:ce x.values=true
 now:0≤x.now∧x.now≤s.horizon+1
 all:∀ i:Int,0≤i→i<s.nodes.length→-1≤tm x.times i∧tm x.times i≤11
theorem bc {s:GShow}{x:GState}(h:aC s x=true):StR s x:=by
 have hR:=cF h
 have h2:=h
 unfold aC at h2
 simp only[Bool.and_eq_true,decide_eq_true_eq]at h2
 obtain⟨⟨⟨⟨⟨a1,a2⟩,a3⟩,a4⟩,a5⟩,a6⟩:=h2
 exact⟨a1,hR.right,a3,a4,a2,hR.all⟩
def late (s:GShow)(x:GState)(t:GTie):Bool:=
 if tm x.times t.from_=-1 then (if t.free=true then false else (if tm x.times t.to=-1 then false else decide (dc (cu s t.from_.toNat) x.values=1)&&decide (tm x.times t.to - x.now<t.low)))
 else if tm x.times t.to=-1 then (if t.free=true then false else decide (dc (cu s t.to.toNat) x.values=1)&&decide (t.high<x.now - tm x.times t.from_))
 else decide (tm x.times t.to - tm x.times t.from_<t.low) || decide (t.high<tm x.times t.to - tm x.times t.from_)
def se (s:GShow)(x:GState)(i:Nat):Bool:=!(decide (tm x.times (i:Int)=-1) && !decide (dc (cu s i) x.values=-1))
def kG (s:GShow)(x:GState):Bool:=(List.range s.nodes.length).all (se s x)
def dC (s:GShow)(x:GState):Bool:=s.ties.any (late s x) || (decide (s.horizon<x.now) && !kG s x)
theorem vf {n:Nat}{p:Nat→Bool}:(List.range n).all p=decide (∀ i,i<n→p i=true):=by
 rw[Bool.eq_iff_iff,List.all_eq_true,decide_eq_true_eq]
 exact⟨fun h i hi=>h i (List.mem_range.2 hi),fun h i hi=>h i (List.mem_range.1 hi)⟩
theorem lC {s:GShow}{x:GState}(hs:aM s)(h:StR s x){k:Int}(h0:0≤k)(h1:k<s.nodes.length):∃ b,getI s.nodes k=some b∧eo b.label x.values=some (dc (cu s k.toNat) x.values)∧bI b.label x.values=some (dc (cu s k.toNat) x.values):=by
 have hi:k.toNat<s.nodes.length:=by omega
 refine⟨s.nodes[k.toNat],?_,?_,?_⟩
 ·have:=ao hi
  rwa [show((k.toNat:Nat):Int)=k by omega]at this
 ·rw[sd (tw h.ok hi).1 h.val (hs.node _ (List.getElem_mem hi)).2,sP hi]
 ·rw[sZ (tw h.ok hi).1 h.val (hs.node _ (List.getElem_mem hi)).2,sP hi]
theorem Uh {s:GShow}{x:GState}(h:StR s x){i:Nat}(hi:i<s.nodes.length):-1≤dc (cu s i) x.values∧dc (cu s i) x.values≤1:=by
 rw[sP hi]
 exact Nl h.val (tw h.ok hi).1
theorem sf {s:GShow}{x:GState}(hs:aM s)(h:StR s x){k:Int}(h0:0≤k)(h1:k<s.nodes.length):cX s x k=some (dc (cu s k.toNat) x.values):=by
 obtain⟨b,e1,e2,_⟩:=lC hs h h0 h1
 unfold cX
 rw[e1]
 simp only[obnd]
 rw[e2]
theorem EL {s:GShow}{x:GState}(hs:aM s)(h:StR s x){t:GTie}(ht:t∈s.ties):iU s x t=some (late s x t):=by
 have hT:=h.right.tie t ht
 have hln:=h.len
 have hn:=h.now
 have hh:=h.right.hor
 have b1:=h.all _ hT.f0 hT.f1
 have b2:=h.all _ hT.t0 hT.t1
 unfold iU late
 rw[bl hT.f0 (by have:=hT.f1;omega),bl hT.t0 (by have:=hT.t1;omega)]
 simp only[obnd]
 by_cases hf:tm x.times t.from_=-1
 ·rw[if_pos hf,if_pos hf]
  cases t.free
  ·simp only[Bool.false_eq_true,if_false]
   by_cases h2:tm x.times t.to=-1
   ·rw[if_pos h2,if_pos h2]
   ·rw[if_neg h2,if_neg h2,sf hs h hT.f0 hT.f1,wr (by omega) (by omega)]
    simp only
    by_cases h3:dc (cu s t.from_.toNat) x.values=1
    ·rw[if_pos h3,decide_eq_true h3];rfl
    ·rw[if_neg h3,decide_eq_false h3];rfl
  ·simp only[if_true]
 ·rw[if_neg hf,if_neg hf]
  by_cases h2:tm x.times t.to=-1
  ·rw[if_pos h2,if_pos h2]
   cases t.free
   ·simp only[Bool.false_eq_true,if_false]
    rw[sf hs h hT.t0 hT.t1,wr (by omega) (by omega)]
    simp only
    by_cases h3:dc (cu s t.to.toNat) x.values=1
    ·rw[if_pos h3,decide_eq_true h3];rfl
    ·rw[if_neg h3,decide_eq_false h3];rfl
   ·simp only[if_true]
  ·rw[if_neg h2,if_neg h2,wr (by omega) (by omega)]
   by_cases h3:tm x.times t.to - tm x.times t.from_<t.low
   ·rw[if_pos h3,decide_eq_true h3];rfl
   ·rw[if_neg h3,decide_eq_false h3];rfl
theorem tY {s:GShow}{x:GState}(hs:aM s)(h:StR s x):fP s x=some (kG s x):=by
 have hln:=h.len
 have h7:=h.right.nodes
 unfold fP kG
 have key:=bn (body:=gD x.times ((x.times.length:Nat):Int) s.nodes s.ties s.horizon x.now x.values) x.times.length (fun i=>(i:Int)) (se s x) (rT:=.inl ()) (rF:=.inr false) ?_ ?_ ?_
 ·rw[show((0:Nat):Int)=0 from rfl]at key
  rw[key,vf,← hln]
  simp only[obnd]
  split
  ·rename_i q he
   split at he
   ·rename_i hp;rw[decide_eq_true hp]
   ·cases he
  ·rename_i q he
   split at he
   ·cases he
   ·rename_i hp;cases he;rw[decide_eq_false hp]
 ·intro i hi hp
  unfold gD
  try simp only
  rw[if_pos (by omega),ew hi]
  simp only[obnd]
  unfold se at hp
  by_cases ht:tm x.times (i:Int)=-1
  ·rw[if_pos ht,show(GShow.mk s.nodes s.ties s.horizon)=s from rfl,show(GState.mk x.now x.times x.values)=x from rfl,sf hs h (by omega) (by omega),Int.toNat_natCast]
   simp only
   rw[decide_eq_true ht]at hp
   rw[if_pos (by simpa using hp),wr (by omega) (by omega)];rfl
  ·rw[if_neg ht,wr (by omega) (by omega)];rfl
 ·intro i hi hp
  unfold gD
  try simp only
  rw[if_pos (by omega),ew hi]
  simp only[obnd]
  unfold se at hp
  simp only[Bool.not_eq_false',Bool.and_eq_true,decide_eq_true_eq,Bool.not_eq_true',decide_eq_false_iff_not]at hp
  rw[if_pos hp.1,show(GShow.mk s.nodes s.ties s.horizon)=s from rfl,show(GState.mk x.now x.times x.values)=x from rfl,sf hs h (by omega) (by omega),Int.toNat_natCast]
  simp only
  rw[if_neg hp.2]
 ·unfold gD
  try simp only
  rw[if_neg (by omega)]
theorem vx {s:GShow}{x:GState}(hs:aM s)(h:StR s x):gd s x=some (dC s x):=by
 unfold gd dC
 rw[uK s.ties _ (late s x) hs.ties]
 ·simp only[obnd]
  cases s.ties.any (late s x)
  ·rw[if_neg (by simp)]
   by_cases hh:s.horizon<x.now
   ·rw[if_pos hh,tY hs h,decide_eq_true hh];rfl
   ·rw[if_neg hh,decide_eq_false hh];rfl
  ·rw[if_pos rfl];rfl
 ·intro t ht
  unfold lu
  rw[EL hs h ht];rfl
theorem Ds {s:GShow}{x:GState}(hs:aM s)(h:StR s x){t:GTie}(ht:t∈s.ties):mq s x t=some (late s x t):=by
 have hT:=h.right.tie t ht
 have hln:=h.len
 have hn:=h.now
 have hh:=h.right.hor
 have b1:=h.all _ hT.f0 hT.f1
 have b2:=h.all _ hT.t0 hT.t1
 obtain⟨n1,e1,_,e2⟩:=lC hs h hT.f0 hT.f1
 obtain⟨n2,e3,_,e4⟩:=lC hs h hT.t0 hT.t1
 unfold mq late
 rw[bl hT.f0 (by have:=hT.f1;omega),bl hT.t0 (by have:=hT.t1;omega)]
 simp only[obnd]
 by_cases hf:tm x.times t.from_=-1
 ·rw[if_pos hf,if_pos hf]
  cases t.free
  ·simp only[Bool.false_eq_true,if_false]
   by_cases h2:tm x.times t.to=-1
   ·rw[if_pos h2,if_pos h2]
   ·rw[if_neg h2,if_neg h2,e1,wr (by omega) (by omega)]
    simp only
    rw[e2]
    simp only
    by_cases h3:dc (cu s t.from_.toNat) x.values=1
    ·rw[if_pos h3,decide_eq_true h3];rfl
    ·rw[if_neg h3,decide_eq_false h3];rfl
  ·simp only[if_true]
 ·rw[if_neg hf,if_neg hf]
  by_cases h2:tm x.times t.to=-1
  ·rw[if_pos h2,if_pos h2]
   cases t.free
   ·simp only[Bool.false_eq_true,if_false]
    rw[e3,wr (by omega) (by omega)]
    simp only
    rw[e4]
    simp only
    by_cases h3:dc (cu s t.to.toNat) x.values=1
    ·rw[if_pos h3,decide_eq_true h3];rfl
    ·rw[if_neg h3,decide_eq_false h3];rfl
   ·simp only[if_true]
  ·rw[if_neg h2,if_neg h2,wr (by omega) (by omega),bU]
   simp only
   congr 1
   by_cases h3:tm x.times t.to - tm x.times t.from_<t.low
   ·rw[decide_eq_true h3,decide_eq_false (by omega)];rfl
   ·rw[decide_eq_false h3]
    by_cases h4:t.high<tm x.times t.to - tm x.times t.from_
    ·rw[decide_eq_true h4,decide_eq_false (by omega)];rfl
    ·rw[decide_eq_false h4,decide_eq_true (by omega)];rfl
theorem zy {s:GShow}{x:GState}(h:StR s x){i:Nat}(hi:i<s.nodes.length):se s x i=!(decide (tm x.times (i:Int)=-1)&&decide (0≤dc (cu s i) x.values)):=by
 have:=Uh h hi
 unfold se
 congr 2
 by_cases h1:dc (cu s i) x.values=-1
 ·rw[decide_eq_true h1,decide_eq_false (by omega)];rfl
 ·rw[decide_eq_false h1,decide_eq_true (by omega)];rfl
theorem wC {s:GShow}{x:GState}(hs:aM s)(h:StR s x):iu s x=some (kG s x):=by
 have hln:=h.len
 have h7:=h.right.nodes
 unfold iu kG
 have key:=bn (body:=gz s.nodes ((s.nodes.length:Nat):Int) x.now x.times x.values) s.nodes.length (fun i=>(i:Int)) (se s x) (rT:=.inl ()) (rF:=.inr false) ?_ ?_ ?_
 ·rw[show((0:Nat):Int)=0 from rfl]at key
  rw[key,vf]
  simp only[obnd]
  split
  ·rename_i q he
   split at he
   ·rename_i hp;rw[decide_eq_true hp]
   ·cases he
  ·rename_i q he
   split at he
   ·cases he
   ·rename_i hp;cases he;rw[decide_eq_false hp]
 ·intro i hi hp
  obtain⟨b,e1,_,e2⟩:=lC hs h (k:=(i:Int)) (by omega) (by omega)
  rw[Int.toNat_natCast]at e2
  rw[zy h hi]at hp
  unfold gz
  try simp only
  rw[if_pos (by omega),e1]
  simp only[obnd]
  rw[ew (by omega)]
  simp only
  by_cases ht:tm x.times (i:Int)=-1
  ·rw[if_pos ht,e2]
   simp only
   rw[decide_eq_true ht]at hp
   rw[if_neg (by simpa using hp),wr (by omega) (by omega)];rfl
  ·rw[if_neg ht,wr (by omega) (by omega)];rfl
 ·intro i hi hp
  obtain⟨b,e1,_,e2⟩:=lC hs h (k:=(i:Int)) (by omega) (by omega)
  rw[Int.toNat_natCast]at e2
  rw[zy h hi]at hp
  simp only[Bool.not_eq_false',Bool.and_eq_true,decide_eq_true_eq]at hp
  unfold gz
  try simp only
  rw[if_pos (by omega),e1]
  simp only[obnd]
  rw[ew (by omega)]
  simp only
  rw[if_pos hp.1,e2]
  simp only
  rw[if_pos hp.2]
 ·unfold gz
  try simp only
  rw[if_neg (by omega)]
theorem uI {s:GShow}{x:GState}(hs:aM s)(h:StR s x):fb s x=some (dC s x):=by
 have hln:=h.len
 have h7:=h.right.nodes
 have h14:=h.right.ties
 unfold fb dC
 have key:=gG (body:=eG s.ties ((s.ties.length:Nat):Int) s.nodes s.horizon x.now x.times x.values) s.ties (late s x) (fun i=>(i:Int)) (rT:=.inl ()) (fun _=>.inr true) ?_ ?_ ?_
 ·rw[show((0:Nat):Int)=0 from rfl]at key
  have hany:s.ties.any (late s x)=(s.ties.findIdx? (late s x)).isSome:=(List.findIdx?_isSome).symm
  rw[key]
  cases hf:s.ties.findIdx? (late s x) with
  | some i=>rw[hany,hf];rfl
  | none=>
   rw[hany,hf]
   simp only[obnd,Option.isSome_none,Bool.false_or]
   by_cases hh:s.horizon<x.now
   ·have k2:=bn (body:=ca s.nodes ((s.nodes.length:Nat):Int) s.ties s.horizon x.now x.times x.values) s.nodes.length (fun i=>(i:Int)) (se s x) (rT:=.inl ()) (rF:=.inr true) ?_ ?_ ?_
    ·rw[show((0:Nat):Int)=0 from rfl]at k2
     rw[k2,decide_eq_true hh]
     unfold kG
     rw[vf]
     simp only
     split
     ·rename_i q he
      split at he
      ·rename_i hp;rw[decide_eq_true hp];rfl
      ·cases he
     ·rename_i q he
      split at he
      ·cases he
      ·rename_i hp;cases he;rw[decide_eq_false hp];rfl
    ·intro i hi hp
     obtain⟨b,e1,_,e2⟩:=lC hs h (k:=(i:Int)) (by omega) (by omega)
     rw[Int.toNat_natCast]at e2
     rw[zy h hi]at hp
     unfold ca
     try simp only
     rw[if_pos (by omega),e1]
     simp only[obnd]
     rw[if_pos hh,ew (by omega)]
     simp only
     by_cases ht:tm x.times (i:Int)=-1
     ·rw[if_pos ht,e2]
      simp only
      rw[decide_eq_true ht]at hp
      rw[if_neg (by simpa using hp),wr (by omega) (by omega)];rfl
     ·rw[if_neg ht,wr (by omega) (by omega)];rfl
    ·intro i hi hp
     obtain⟨b,e1,_,e2⟩:=lC hs h (k:=(i:Int)) (by omega) (by omega)
     rw[Int.toNat_natCast]at e2
     rw[zy h hi]at hp
     simp only[Bool.not_eq_false',Bool.and_eq_true,decide_eq_true_eq]at hp
     unfold ca
     try simp only
     rw[if_pos (by omega),e1]
     simp only[obnd]
     rw[if_pos hh,ew (by omega)]
     simp only
     rw[if_pos hp.1,e2]
     simp only
     rw[if_pos hp.2]
    ·unfold ca
     try simp only
     rw[if_neg (by omega)]
   ·have k2:=aE (body:=ca s.nodes ((s.nodes.length:Nat):Int) s.ties s.horizon x.now x.times x.values) s.nodes.length (fun i=>(i:Int)) (r:=.inl ()) ?_ ?_
    ·rw[show((0:Nat):Int)=0 from rfl]at k2
     rw[k2,decide_eq_false hh];rfl
    ·intro i hi
     unfold ca
     try simp only
     rw[if_pos (by omega),ao hi]
     simp only[obnd]
     rw[if_neg hh,wr (by omega) (by omega)];rfl
    ·unfold ca
     try simp only
     rw[if_neg (by omega)]
 ·intro i hi hp
  unfold eG
  try simp only
  rw[if_pos (by omega),ao hi]
  simp only[obnd]
  rw[show(GShow.mk s.nodes s.ties s.horizon)=s from rfl,show(GState.mk x.now x.times x.values)=x from rfl,Ds hs h (List.getElem_mem hi),hp,wr (by omega) (by omega)];rfl
 ·intro i hi hp
  unfold eG
  try simp only
  rw[if_pos (by omega),ao hi]
  simp only[obnd]
  rw[show(GShow.mk s.nodes s.ties s.horizon)=s from rfl,show(GState.mk x.now x.times x.values)=x from rfl,Ds hs h (List.getElem_mem hi),hp];rfl
 ·unfold eG
  try simp only
  rw[if_neg (by omega)]
end Go.Proofs.Qc
set_option maxRecDepth 100000
namespace Go.Proofs.Qc
open Go
def bitV (n:Int)(i:Nat):Int:=IntKind.wrap .i64 (1 - (IntKind.wrap .i64 (2*(IntKind.wrap .i64 (((BitVec.ofInt (IntKind.bits .i64) (Int.fdiv n (2^(min i 64))) &&& BitVec.ofInt (IntKind.bits .i64) 1).toNat:Nat):Int)))))
theorem Qo (n:Int)(i:Nat):bitV n i=1∨bitV n i=-1:=by
 unfold bitV
 have h:∀ b:BitVec 64,(b &&& BitVec.ofInt 64 1).toNat=0∨(b &&& BitVec.ofInt 64 1).toNat=1:=by
  intro b
  rw[BitVec.toNat_and]
  have:(BitVec.ofInt 64 1).toNat=1:=by decide
  rw[this,Nat.and_one_is_mod]
  omega
 have:=h (BitVec.ofInt (IntKind.bits .i64) (Int.fdiv n (2^(min i 64))))
 rcases this with h|h
 ·left
  change IntKind.wrap .i64 (1 - (IntKind.wrap .i64 (2*(IntKind.wrap .i64 (((BitVec.ofInt 64 (Int.fdiv n (2^(min i 64))) &&& BitVec.ofInt 64 1).toNat:Nat):Int)))))=1
  change (BitVec.ofInt 64 (Int.fdiv n (2^(min i 64))) &&& BitVec.ofInt 64 1).toNat=0 at h
  rw[h];decide
 ·right
  change IntKind.wrap .i64 (1 - (IntKind.wrap .i64 (2*(IntKind.wrap .i64 (((BitVec.ofInt 64 (Int.fdiv n (2^(min i 64))) &&& BitVec.ofInt 64 1).toNat:Nat):Int)))))=-1
  change (BitVec.ofInt 64 (Int.fdiv n (2^(min i 64))) &&& BitVec.ofInt 64 1).toNat=1 at h
  rw[h];decide
def qh (m n:Nat):List Int:=(List.range m).map (bitV (n:Int))
def obsL (ps:List Int):List (List Int):=(List.range (2^ps.length)).map (qh ps.length)
theorem tZ {ps vs:List Int}(h:vs∈obsL ps):vs.length=ps.length∧∀ v,v∈vs→v=1∨v=-1:=by
 unfold obsL at h
 rw[List.mem_map]at h
 obtain⟨n,_,rfl⟩:=h
 unfold qh
 refine⟨by simp,fun v hv=>?_⟩
 rw[List.mem_map]at hv
 obtain⟨i,_,rfl⟩:=hv
 exact Qo _ _
theorem II {ps:List Int}(h:ps.length≤7):(obsL ps).length≤128:=by
 unfold obsL
 simpa using qg h
theorem IJ {ps:List Int}(h:Asc ps){i:Nat}(hi:i<ps.length)(h0:0<i):ps.getD (i - 1) 0<ps.getD i 0:=by
 unfold Asc at h
 rw[List.pairwise_iff_getElem]at h
 have:=h (i - 1) i (by omega) hi (by omega)
 rw[List.getD_eq_getElem?_getD,List.getD_eq_getElem?_getD,List.getElem?_eq_getElem hi,List.getElem?_eq_getElem (show i - 1<ps.length by omega)]
 exact this
theorem xc {ps:List Int}(ha:Asc ps)(hp:∀ p,p∈ps→1≤p∧p≤3)(hl:ps.length≤3):fQ ps=some (obsL ps):=by
 have pb:∀ i,i<ps.length→1≤ps.getD i 0∧ps.getD i 0≤3:=by
  intro i hi
  rw[List.getD_eq_getElem?_getD,List.getElem?_eq_getElem hi]
  exact hp _ (List.getElem_mem hi)
 have hpow:=qg (m:=ps.length) (by omega)
 unfold fQ
 have k1:aj (dM ps ((ps.length:Nat):Int)) ((0:Nat):Int)=some (.inl ()):=by
  refine aE ps.length (fun i=>(i:Int)) ?_ ?_
  ·intro i hi
   have hb:=pb i hi
   unfold dM
   try simp only
   rw[if_pos (by omega),aR hi]
   simp only[obnd]
   rw[if_neg (by omega),if_neg (by omega),wr (x:=(i:Int)+1) (by omega) (by omega)]
   by_cases h0:0<i
   ·rw[if_pos (by omega),wr (by omega) (by omega),show(i:Int) - 1=((i - 1:Nat):Int) by omega,aR (by omega)]
    simp only
    have:=IJ ha hi h0
    rw[if_neg (by omega)];rfl
   ·rw[if_neg (by omega)];rfl
  ·unfold dM
   try simp only
   rw[if_neg (by omega)]
 have k4:∀ (n:Nat) (out:List (List Int)),aj (dN ps (n:Int) ((ps.length:Nat):Int) out) (((0:Nat):Int),(List.range 0).map (bitV (n:Int)))=some (qh ps.length n):=by
  intro n out
  unfold qh
  refine aE ps.length (fun i=>((i:Int),(List.range i).map (bitV (n:Int)))) ?_ ?_
  ·intro i hi
   unfold dN
   try simp only
   rw[if_pos (by omega),ai (by omega),ai (by simp;omega),ai (by simp;omega),wr (x:=(i:Int)+1) (by omega) (by omega),cJ,Int.toNat_natCast];rfl
  ·unfold dN
   try simp only
   rw[if_neg (by omega)]
 have k5:aj (dO ps) (((0:Nat):Int),(List.range 0).map (qh ps.length))=some (obsL ps):=by
  unfold obsL
  refine aE (2^ps.length) (fun i=>((i:Int),(List.range i).map (qh ps.length))) ?_ ?_
  ·intro i hi
   have k:=k4 i ((List.range i).map (qh ps.length))
   simp only[List.range_zero,List.map_nil,Int.natCast_zero]at k
   unfold dO
   try simp only
   rw[ai (by omega),mC (by omega),if_pos (by omega),k]
   simp only[obnd]
   rw[ai (by simp;omega),ai (by simp;omega),wr (x:=(i:Int)+1) (by omega) (by omega),cJ];rfl
  ·unfold dO
   try simp only
   rw[ai (by omega),mC (by omega),if_neg (by omega)]
 simp only[Int.natCast_zero]at k1
 simp only[List.range_zero,List.map_nil,Int.natCast_zero]at k5
 rw[k1]
 simp only[obnd]
 rw[k5]
theorem xd {ps:List Int}(ha:Asc ps)(hp:∀ p,p∈ps→1≤p∧p≤3)(hl:ps.length≤3):fM ps=some (obsL ps):=by
 have pb:∀ i,i<ps.length→1≤ps.getD i 0∧ps.getD i 0≤3:=by
  intro i hi
  rw[List.getD_eq_getElem?_getD,List.getElem?_eq_getElem hi]
  exact hp _ (List.getElem_mem hi)
 have hpow:=qg (m:=ps.length) (by omega)
 unfold fM
 have k1:aj (dI ps ((ps.length:Nat):Int)) ((0:Nat):Int)=some (.inl ()):=by
  refine aE ps.length (fun i=>(i:Int)) ?_ ?_
  ·intro i hi
   have hb:=pb i hi
   unfold dI
   try simp only
   rw[if_pos (by omega),aR hi]
   simp only[obnd]
   rw[bU,decide_eq_true (show(1:Int)≤ps.getD i 0∧ps.getD i 0≤3 by omega),wr (x:=(i:Int)+1) (by omega) (by omega)]
   simp only[if_true]
   by_cases h0:0<i
   ·rw[if_pos (by omega),wr (by omega) (by omega),show(i:Int) - 1=((i - 1:Nat):Int) by omega,aR (by omega)]
    simp only
    have:=IJ ha hi h0
    rw[if_neg (by omega)];rfl
   ·rw[if_neg (by omega)];rfl
  ·unfold dI
   try simp only
   rw[if_neg (by omega)]
 have k4:∀ (n:Nat) (out:List (List Int)),aj (dJ ps (n:Int) ((ps.length:Nat):Int) out) (((0:Nat):Int),(List.range 0).map (bitV (n:Int)))=some (qh ps.length n):=by
  intro n out
  unfold qh
  refine aE ps.length (fun i=>((i:Int),(List.range i).map (bitV (n:Int)))) ?_ ?_
  ·intro i hi
   unfold dJ
   try simp only
   rw[if_pos (by omega),wru (by omega),ai (by omega),ai (by simp;omega),ai (by simp;omega),wr (x:=(i:Int)+1) (by omega) (by omega),cJ,Int.toNat_natCast];rfl
  ·unfold dJ
   try simp only
   rw[if_neg (by omega)]
 have k5:aj (dK ps) (((0:Nat):Int),(List.range 0).map (qh ps.length))=some (obsL ps):=by
  unfold obsL
  refine aE (2^ps.length) (fun i=>((i:Int),(List.range i).map (qh ps.length))) ?_ ?_
  ·intro i hi
   have k:=k4 i ((List.range i).map (qh ps.length))
   simp only[List.range_zero,List.map_nil,Int.natCast_zero]at k
   unfold dK
   try simp only
   rw[wru (by omega),ai (by omega),Int.toNat_natCast,mC (by omega),if_pos (by omega),k]
   simp only[obnd]
   rw[ai (by simp;omega),ai (by simp;omega),wr (x:=(i:Int)+1) (by omega) (by omega),cJ];rfl
  ·unfold dK
   try simp only
   rw[wru (by omega),ai (by omega),Int.toNat_natCast,mC (by omega),if_neg (by omega)]
 simp only[Int.natCast_zero]at k1
 simp only[List.range_zero,List.map_nil,Int.natCast_zero]at k5
 rw[k1]
 simp only[obnd]
 rw[k5]
theorem wr8 {x:Int}(h1:0≤x)(h2:x≤255):IntKind.wrap .u8 x=x:=by
 unfold IntKind.wrap
 simp[IntKind.bits,IntKind.signed]
 omega
def keyL (x:GState):List Int:=[x.now]++x.times.map (fun n=>n+1)++x.values.map (fun n=>n+1)
def keyS (x:GState):ByteArray:=pZ (keyL x)
theorem LS (ns:List Int):(pZ ns).data.toList=ns.map (fun n=>UInt8.ofNat n.toNat):=by
 unfold pZ
 have key:∀ (ns:List Int) (a:ByteArray),(ns.foldl (fun r n=>r.push (UInt8.ofNat n.toNat)) a).data.toList=a.data.toList++ns.map (fun n=>UInt8.ofNat n.toNat):=by
  intro ns
  induction ns with
  | nil=>intro a;simp
  | cons n ns ih=>
   intro a
   simp only[List.foldl_cons,ih,List.map_cons]
   simp[ByteArray.push]
 rw[key]
 rfl
theorem Qp {xs ys:List Int}(hx:∀ n,n∈xs→0≤n∧n≤255)(hy:∀ n,n∈ys→0≤n∧n≤255)(h:xs.map (fun n=>UInt8.ofNat n.toNat)=ys.map (fun n=>UInt8.ofNat n.toNat)):xs=ys:=by
 induction xs generalizing ys with
 | nil=>cases ys with
  | nil=>rfl
  | cons y ys=>simp at h
 | cons x xs ih=>cases ys with
  | nil=>simp at h
  | cons y ys=>
   simp only[List.map_cons,List.cons.injEq]at h
   have h1:=hx x (by simp)
   have h2:=hy y (by simp)
   have h3:=congrArg UInt8.toNat h.1
   simp only[UInt8.toNat_ofNat']at h3
   have:x=y:=by omega
   rw[this,ih (fun n hn=>hx n (by simp[hn])) (fun n hn=>hy n (by simp[hn])) h.2]
theorem Qq {ts:List Int}{n:Int}(h:n∈ts):∃ i,i<ts.length∧n=tm ts (i:Int):=by
 obtain⟨i,hi,rfl⟩:=List.getElem_of_mem h
 refine⟨i,hi,?_⟩
 unfold tm
 rw[Int.toNat_natCast,List.getElem?_eq_getElem hi];rfl
theorem IK {s:GShow}{x:GState}(h:StR s x):(∀ n,n∈x.times→-1≤n∧n≤11)∧(∀ n,n∈x.values→-1≤n∧n≤1)∧∀ n,n∈keyL x→0≤n∧n≤255:=by
 have hn:=h.now
 have hh:=h.right.hor
 have ht:∀ n,n∈x.times→-1≤n∧n≤11:=by
  intro n hn
  obtain⟨i,hi,rfl⟩:=Qq hn
  exact h.all _ (by omega) (by have:=h.len;omega)
 have hv:=(bb h.val).2
 refine⟨ht,hv,?_⟩
 intro n hm
 unfold keyL at hm
 simp only[List.mem_append,List.mem_map,List.mem_singleton]at hm
 rcases hm with (rfl|⟨m,hm,rfl⟩)|⟨m,hm,rfl⟩
 ·omega
 ·have:=ht m hm;omega
 ·have:=hv m hm;omega
theorem IL {xs ys:List Int}(h:xs.map (fun n=>n+1)=ys.map (fun n=>n+1)):xs=ys:=by
 have:=congrArg (fun l=>l.map (fun n:Int=>n - 1)) h
 simpa [Function.comp_def] using this
theorem OJ {s:GShow}{x y:GState}(hx:StR s x)(hy:StR s y)(h:keyS x=keyS y):x=y:=by
 have h1:=congrArg (fun b=>b.data.toList) h
 simp only[keyS,LS]at h1
 have h2:=Qp (IK hx).2.2 (IK hy).2.2 h1
 unfold keyL at h2
 have hlen:x.times.length=y.times.length:=by rw[hx.len,hy.len]
 have e1:=List.append_inj h2 (by simp[hlen])
 obtain⟨e2,e3⟩:=e1
 simp only[List.singleton_append,List.cons.injEq]at e2
 have e4:=IL e2.2
 have e5:=IL e3
 obtain⟨a,b,c⟩:=x
 obtain⟨a',b',c'⟩:=y
 simp only at e2 e4 e5
 rw[e2.1,e4,e5]
theorem Ui {s:GShow}{x:GState}(h:StR s x):rW x=some (keyS x):=by
 obtain⟨ht,hv,_⟩:=IK h
 have hn:=h.now
 have hh:=h.right.hor
 have hln:=h.len
 have h7:=h.right.nodes
 have h3:=(bb h.val).1
 unfold rW
 have k1:aj (nG x.times ((x.times.length:Nat):Int) x.now x.values) (((0:Nat):Int),[x.now]++(x.times.take 0).map (fun n=>n+1))=some ([x.now]++x.times.map (fun n=>n+1)):=by
  refine aE x.times.length (fun i=>((i:Int),[x.now]++(x.times.take i).map (fun n=>n+1))) ?_ ?_
  ·intro i hi
   have hb:=ht _ (List.getElem_mem hi)
   unfold nG
   try simp only
   rw[if_pos (by omega),ao hi]
   simp only[obnd]
   rw[ai (by simp;omega),ai (by simp;omega),wr (x:=(i:Int)+1) (by omega) (by omega),wr (x:=x.times[i]+1) (by omega) (by omega),wr8 (by omega) (by omega),List.take_succ_eq_append_getElem hi,List.map_append,← List.append_assoc];rfl
  ·unfold nG
   try simp only
   rw[if_neg (by omega),List.take_length]
 have k2:aj (nH x.values ((x.values.length:Nat):Int)) (((0:Nat):Int),[x.now]++x.times.map (fun n=>n+1)++(x.values.take 0).map (fun n=>n+1))=some (keyL x):=by
  unfold keyL
  refine aE x.values.length (fun i=>((i:Int),[x.now]++x.times.map (fun n=>n+1)++(x.values.take i).map (fun n=>n+1))) ?_ ?_
  ·intro i hi
   have hb:=hv _ (List.getElem_mem hi)
   unfold nH
   try simp only
   rw[if_pos (by omega),ao hi]
   simp only[obnd]
   rw[ai (by simp;omega),ai (by simp;omega),wr (x:=(i:Int)+1) (by omega) (by omega),wr (x:=x.values[i]+1) (by omega) (by omega),wr8 (by omega) (by omega),List.take_succ_eq_append_getElem hi,List.map_append,← List.append_assoc];rfl
  ·unfold nH
   try simp only
   rw[if_neg (by omega),List.take_length]
 simp only[List.take_zero,List.map_nil,Int.natCast_zero,List.append_nil]at k1 k2
 rw[wr8 (by omega) (by omega),k1]
 simp only[obnd]
 rw[k2];rfl
end Go.Proofs.Qc
set_option maxRecDepth 100000
namespace Go.Proofs.Qc
open Go
def bK (r:GState→Bool)(s:GShow)(y:GState)(nodes:List Int):Bool:=(obsL (az s nodes)).all (fun vs=>r (obsX (decX y nodes) (az s nodes) vs))
def anyB (r:GState→Bool)(s:GShow)(y:GState):Bool:=(decL s y).any (bK r s y)
noncomputable def mE (r:GState→Bool)(s:GShow)(x:GState):Bool:=
 if dC s x=true then false else if kG s x=true then true else (bD s x).all (fun ties=>anyB r s (endX s x ties))
noncomputable def winF:Nat→GShow→GState→Bool
 | 0,_,_=>false
 | n+1,s,x=>mE (winF n s) s x
noncomputable def win (s:GShow)(x:GState):Bool:=winF 12 s x
theorem AY {r r':GState→Bool}{s:GShow}{y:GState}(h:MomR s y){nodes:List Int}(hn:nodes∈decL s y)(hr:∀ z,aC s z=true→z.now=y.now+1→r z=r' z):bK r s y nodes=bK r' s y nodes:=by
 obtain⟨_,_,hm⟩:=dQ h.right hn
 unfold bK
 rw[Bool.eq_iff_iff,List.all_eq_true,List.all_eq_true]
 have key:∀ vs,vs∈obsL (az s nodes)→r (obsX (decX y nodes) (az s nodes) vs)=r' (obsX (decX y nodes) (az s nodes) vs):=by
  intro vs hv
  obtain⟨h1,h2⟩:=tZ hv
  exact hr _ (vT h hm h1 h2) rfl
 exact⟨fun h vs hv=>by rw[← key vs hv];exact h vs hv,fun h vs hv=>by rw[key vs hv];exact h vs hv⟩
theorem LT {r r':GState→Bool}{s:GShow}{y:GState}(h:MomR s y)(hr:∀ z,aC s z=true→z.now=y.now+1→r z=r' z):anyB r s y=anyB r' s y:=by
 unfold anyB
 rw[Bool.eq_iff_iff,List.any_eq_true,List.any_eq_true]
 exact⟨fun ⟨nd,h1,h2⟩=>⟨nd,h1,by rw[← AY h h1 hr];exact h2⟩,fun ⟨nd,h1,h2⟩=>⟨nd,h1,by rw[AY h h1 hr];exact h2⟩⟩
theorem mF {s:GShow}{x:GState}(hx:aC s x=true){ties:List Int}(ht:ties∈bD s x):MomR s (endX s x ties):=by
 obtain⟨h1,h2,h3⟩:=kB (bc hx).ok ht
 exact vd (wz hx h1 h3)
theorem Gh {r r':GState→Bool}{s:GShow}{x:GState}(hx:aC s x=true)(hr:∀ z,aC s z=true→z.now=x.now+1→r z=r' z):mE r s x=mE r' s x:=by
 unfold mE
 cases dC s x
 ·cases kG s x
  ·simp only[Bool.false_eq_true,if_false]
   rw[Bool.eq_iff_iff,List.all_eq_true,List.all_eq_true]
   have key:∀ ties,ties∈bD s x→anyB r s (endX s x ties)=anyB r' s (endX s x ties):=fun ties ht=>LT (mF hx ht) hr
   exact⟨fun h t ht=>by rw[← key t ht];exact h t ht,fun h t ht=>by rw[key t ht];exact h t ht⟩
  ·rfl
 ·rfl
theorem AZ {s:GShow}:∀ (n:Nat) (x:GState),aC s x=true→12≤(n:Int)+x.now→winF (n+1) s x=winF n s x
 | 0,x,hx,h=>by
  have:=(bc hx).now
  have:=(bc hx).right.hor
  omega
 | n+1,x,hx,h=>by
  show mE (winF (n+1) s) s x=mE (winF n s) s x
  exact Gh hx (fun z hz hn=>AZ n z hz (by omega))
theorem Qr {s:GShow}{x:GState}(hx:aC s x=true){n:Nat}(h:12≤(n:Int)+x.now):winF n s x=win s x:=by
 have hn:=(bc hx).now
 unfold win
 have up:∀ k m:Nat,12≤(m:Int)+x.now→winF (m+k) s x=winF m s x:=by
  intro k
  induction k with
  | zero=>intro m _;rfl
  | succ k ih=>
   intro m hm
   rw[← Nat.add_assoc,AZ (m+k) x hx (by omega),ih m hm]
 rcases Nat.le_total n 12 with h1|h1
 ·have:=up (12 - n) n h
  rw[show n+(12 - n)=12 by omega]at this
  exact this.symm
 ·have:=up (n - 12) 12 (by omega)
  rwa [show 12+(n - 12)=n by omega]at this
theorem IM {s:GShow}{x:GState}(hx:aC s x=true):win s x=mE (win s) s x:=by
 have h1:win s x=winF 13 s x:=(Qr hx (by have:=(bc hx).now;omega)).symm
 rw[h1]
 show mE (winF 12 s) s x=_
 rfl
theorem IP {α β ρ:Type}(xs:List α)(q:α→Bool)(I:β→Prop)(body:Int × β→Option (Step (Int × β) ρ))(rT rF:β→ρ)
  (h1:∀ i (hi:i<xs.length) k,I k→∃ k',I k'∧body ((i:Int),k)=some (if q xs[i]=true then .next ((i:Int)+1,k') else .done (rF k')))
  (h2:∀ k,I k→body ((xs.length:Int),k)=some (.done (rT k))) (k:β) (hk:I k) :
  ∃ k',I k'∧aj body (0,k)=some (if xs.all q=true then rT k' else rF k'):=by
 have key:=bM (body:=body) (s0:=((0:Int),k)) xs.length (fun i st=>st.1=(i:Int)∧I st.2∧∀ j (hj:j<xs.length),j<i→q xs[j]=true)
  (fun r=>∃ k',I k'∧r=(if xs.all q=true then rT k' else rF k')) ⟨rfl,hk,fun j _ h=>absurd h (by omega)⟩ ?_ ?_
 ·obtain⟨r,hr,hp⟩:=key
  obtain⟨k',h3,rfl⟩:=hp
  exact⟨k',h3,hr⟩
 ·rintro i ⟨a,k⟩ hi ⟨rfl,hI,hall⟩
  obtain⟨k',hk',hb⟩:=h1 i hi k hI
  cases hq:q xs[i]
  ·rw[hq,if_neg (by simp)]at hb
   refine .inr ⟨_,hb,k',hk',?_⟩
   rw[if_neg]
   intro hA
   rw[List.all_eq_true]at hA
   have:=hA _ (List.getElem_mem hi)
   rw[hq]at this;cases this
  ·rw[hq,if_pos rfl]at hb
   refine .inl ⟨_,hb,rfl,hk',fun j hj hlt=>?_⟩
   rcases Nat.lt_or_ge j i with h|h
   ·exact hall j hj h
   ·obtain rfl:j=i:=by omega
    exact hq
 ·rintro⟨a,k⟩ ⟨rfl,hI,hall⟩
  refine⟨_,h2 k hI,k,hI,?_⟩
  rw[if_pos]
  rw[List.all_eq_true]
  intro x hx
  obtain⟨j,hj,rfl⟩:=List.getElem_of_mem hx
  exact hall j hj hj
theorem Nm {α β ρ:Type}(xs:List α)(q:α→Bool)(I:β→Prop)(body:Int × β→Option (Step (Int × β) ρ))(rT:β→ρ)(rF:α→β→ρ)
  (h1:∀ i (hi:i<xs.length) k,I k→∃ k',I k'∧body ((i:Int),k)=some (if q xs[i]=true then .done (rF xs[i] k') else .next ((i:Int)+1,k')))
  (h2:∀ k,I k→body ((xs.length:Int),k)=some (.done (rT k))) (k:β) (hk:I k) :
  ∃ k',I k'∧aj body (0,k)=some (match xs.find? q with|some a=>rF a k'|none=>rT k'):=by
 have key:=bM (body:=body) (s0:=((0:Int),k)) xs.length (fun i st=>st.1=(i:Int)∧I st.2∧∀ j (hj:j<xs.length),j<i→q xs[j]=false)
  (fun r=>∃ k',I k'∧r=(match xs.find? q with|some a=>rF a k'|none=>rT k')) ⟨rfl,hk,fun j _ h=>absurd h (by omega)⟩ ?_ ?_
 ·obtain⟨r,hr,hp⟩:=key
  obtain⟨k',h3,rfl⟩:=hp
  exact⟨k',h3,hr⟩
 ·rintro i ⟨a,k⟩ hi ⟨rfl,hI,hall⟩
  obtain⟨k',hk',hb⟩:=h1 i hi k hI
  cases hq:q xs[i]
  ·rw[hq,if_neg (by simp)]at hb
   refine .inl ⟨_,hb,rfl,hk',fun j hj hlt=>?_⟩
   rcases Nat.lt_or_ge j i with h|h
   ·exact hall j hj h
   ·obtain rfl:j=i:=by omega
    exact hq
  ·rw[hq,if_pos rfl]at hb
   refine .inr ⟨_,hb,k',hk',?_⟩
   have:xs.find? q=some xs[i]:=by
    rw[List.find?_eq_some_iff_getElem]
    exact⟨hq,i,hi,rfl,fun j hj=>by simp[hall j (by omega) hj]⟩
   rw[this]
 ·rintro⟨a,k⟩ ⟨rfl,hI,hall⟩
  refine⟨_,h2 k hI,k,hI,?_⟩
  have:xs.find? q=none:=by
   rw[List.find?_eq_none]
   intro x hx
   obtain⟨j,hj,rfl⟩:=List.getElem_of_mem hx
   simp[hall j hj hj]
  rw[this]
def ck (s:GShow)(k:List (ByteArray × Bool)):Prop:=∀ x b,aC s x=true→qc (keyS x) k=some b→b=win s x
theorem FR (s:GShow):ck s []:=fun x b _ h=>by cases h
theorem Nn (a c:ByteArray)(b:Bool):∀ k,qc a (setB c b k)=if a == c then some b else qc a k:=by
 intro k
 induction k with
 | nil=>simp only[setB,qc]
 | cons p k ih=>
  simp only[setB,qc]
  by_cases h:(c == p.1)=true
  ·rw[if_pos h]
   simp only[qc]
   obtain rfl:=(Go.MapKept.bytes_beq _ _).1 h
   split <;> rfl
  ·rw[if_neg h]
   simp only[qc,ih]
   by_cases h2:(a == p.1)=true
   ·rw[if_pos h2,if_pos h2]
    rw[if_neg]
    intro h3
    obtain rfl:=(Go.MapKept.bytes_beq _ _).1 h3
    exact h h2
   ·rw[if_neg h2,if_neg h2]
theorem No {s:GShow}{k:List (ByteArray × Bool)}(h:ck s k){x:GState}(hx:aC s x=true):ck s (setB (keyS x) (win s x) k):=by
 intro y b hy hf
 rw[Nn]at hf
 split at hf
 ·rename_i he
  cases hf
  have:=OJ (bc hy) (bc hx) ((Go.MapKept.bytes_beq _ _).1 he)
  rw[this]
 ·exact h y b hy hf
abbrev RecT:=GShow→(List (ByteArray × Bool))→GState→Option (Bool × (List (ByteArray × Bool)))
def Dt (s:GShow)(t:Int)(rec:RecT):Prop:=∀ known x,aC s x=true→x.now=t→ck s known→∃ known',ck s known'∧rec s known x=some (win s x,known')
theorem Ba {s:GShow}{rec:RecT}{y:GState}(hr:Dt s (y.now+1) rec)(h:MomR s y){nodes:List Int}(hn:nodes∈decL s y){known:List (ByteArray × Bool)}(hk:ck s known) :
  ∃ known',ck s known'∧eg rec s known y nodes=some (bK (win s) s y nodes,known'):=by
 obtain⟨ha,hl7,hm⟩:=dQ h.right hn
 have hv:=(bb h.val).1
 have h7:=h.right.nodes
 have hln:=h.len
 have hnow:=h.now
 have hh:=h.right.hor
 have hp:∀ p,p∈az s nodes→1≤p∧p≤3:=fun p hp=>⟨(bN hp).1,(bN hp).2.1⟩
 have hl3:=oH s nodes
 have ho:=II (ps:=az s nodes) (by omega)
 unfold eg
 rw[wA h ha hl7 hm]
 simp only[obnd]
 rw[xc (yb s nodes) hp hl3]
 simp only
 have key:=IP (obsL (az s nodes)) (fun vs=>win s (obsX (decX y nodes) (az s nodes) vs)) (ck s)
  (dB rec (((obsL (az s nodes)).length:Nat):Int) (decX y nodes).now (decX y nodes).times (decX y nodes).values (az s nodes) (obsL (az s nodes)) s.nodes s.ties s.horizon)
  (fun k=>.inl k) (fun k=>.inr (false,k)) ?_ ?_ known hk
 ·obtain⟨k',hk',e⟩:=key
  rw[e]
  refine⟨k',hk',?_⟩
  unfold bK
  cases(obsL (az s nodes)).all (fun vs=>win s (obsX (decX y nodes) (az s nodes) vs)) <;> rfl
 ·intro i hi k hk
  obtain⟨h1,h2⟩:=tZ (List.getElem_mem hi)
  have hob:=vT h hm h1 h2
  obtain⟨k',hk',e⟩:=hr k _ hob rfl hk
  refine⟨k',hk',?_⟩
  unfold dB
  try simp only
  rw[if_pos (by omega),ao hi]
  simp only[obnd]
  rw[show(GState.mk (decX y nodes).now (decX y nodes).times (decX y nodes).values)=decX y nodes from rfl,(nM (decX y nodes) (az s nodes) _ (by show 0≤y.now∧y.now≤1000;omega) (by show(bk _ _ _ _).length≤_;rw[ct];omega) hv hp h1 (by omega)).1]
  simp only
  rw[show(GShow.mk s.nodes s.ties s.horizon)=s from rfl,e]
  simp only
  rw[wr (by omega) (by omega)]
  cases win s (obsX (decX y nodes) (az s nodes) (obsL (az s nodes))[i]) <;> rfl
 ·intro k _
  unfold dB
  try simp only
  rw[if_neg (by omega)]
theorem Du {s:GShow}(hs:aM s){rec:RecT}{y:GState}(hr:Dt s (y.now+1) rec)(h:MomR s y){known:List (ByteArray × Bool)}(hk:ck s known) :
  ∃ known',ck s known'∧eJ rec s known y=some (match (decL s y).find? (bK (win s) s y) with|some nd=>(nd,true,known')|none=>([],false,known')):=by
 have hl:=sQ h.right y
 unfold eJ
 rw[uG hs h]
 simp only[obnd]
 have key:=Nm (decL s y) (bK (win s) s y) (ck s) (gg rec (((decL s y).length:Nat):Int) y.now y.times y.values (decL s y) s.nodes s.ties s.horizon)
  (fun k=>.inl k) (fun nd k=>.inr (nd,true,k)) ?_ ?_ known hk
 ·obtain⟨k',hk',e⟩:=key
  rw[e]
  refine⟨k',hk',?_⟩
  cases(decL s y).find? (bK (win s) s y) <;> rfl
 ·intro i hi k hk
  obtain⟨k',hk',e⟩:=Ba hr h (List.getElem_mem hi) hk
  refine⟨k',hk',?_⟩
  unfold gg
  try simp only
  rw[if_pos (by omega),ao hi]
  simp only[obnd]
  rw[show(GShow.mk s.nodes s.ties s.horizon)=s from rfl,show(GState.mk y.now y.times y.values)=y from rfl,e]
  simp only
  rw[wr (by omega) (by omega)]
  cases bK (win s) s y (decL s y)[i] <;> rfl
 ·intro k _
  unfold gg
  try simp only
  rw[if_neg (by omega)]
theorem Np {s:GShow}(hs:aM s){rec:RecT}{x:GState}(hx:aC s x=true)(hr:Dt s (x.now+1) rec){known:List (ByteArray × Bool)}(hk:ck s known) :
  ∃ known',ck s known'∧iV rec s known x=some (win s x,known'):=by
 have hR:=bc hx
 have hv:=(bb hR.val).1
 have hel:=tu (x:=x) hR.ok
 unfold iV
 rw[vx hs hR]
 simp only[obnd]
 have hw:=IM hx
 unfold mE at hw
 cases hb:dC s x
 ·rw[hb]at hw
  simp only[Bool.false_eq_true,if_false]at hw ⊢
  rw[tY hs hR]
  simp only
  cases ho:kG s x
  ·rw[ho]at hw
   simp only[Bool.false_eq_true,if_false]at hw ⊢
   rw[Ui hR]
   simp only
   cases hf:qc (keyS x) known with
   | some b=>exact⟨known,hk,by rw[← hk x b hx hf];rfl⟩
   | none=>
    simp only[Lo]
    rw[wx hx]
    simp only
    have key:=IP (bD s x) (fun ties=>anyB (win s) s (endX s x ties)) (ck s) (hY rec (keyS x) (((bD s x).length:Nat):Int) x.now x.times x.values (bD s x) s.nodes s.ties s.horizon)
     (fun k=>(true,k)) (fun k=>(false,k)) ?_ ?_ known hk
    ·obtain⟨k',hk',e⟩:=key
     rw[e]
     refine⟨_,No hk' hx,?_⟩
     rw[hw]
     cases(bD s x).all (fun ties=>anyB (win s) s (endX s x ties)) <;> rfl
    ·intro i hi k hk
     have hmem:=List.getElem_mem hi
     obtain⟨h1,h2,h3⟩:=kB hR.ok hmem
     have hM:=mF hx hmem
     obtain⟨k',hk',e⟩:=Du hs (y:=endX s x (bD s x)[i]) hr hM hk
     refine⟨k',hk',?_⟩
     unfold hY
     try simp only
     rw[if_pos (by omega),ao hi]
     simp only[obnd]
     rw[show(GShow.mk s.nodes s.ties s.horizon)=s from rfl,show(GState.mk x.now x.times x.values)=x from rfl,Bo hx (by omega) (by omega) h3]
     simp only
     rw[e]
     have hany:anyB (win s) s (endX s x (bD s x)[i])=((decL s (endX s x (bD s x)[i])).find? (bK (win s) s (endX s x (bD s x)[i]))).isSome:=by
      unfold anyB
      rw[Bool.eq_iff_iff,List.find?_isSome,List.any_eq_true]
     rw[hany,wr (by omega) (by omega)]
     cases(decL s (endX s x (bD s x)[i])).find? (bK (win s) s (endX s x (bD s x)[i])) <;> rfl
    ·intro k _
     unfold hY
     try simp only
     rw[if_neg (by omega)]
  ·rw[ho]at hw
   exact⟨known,hk,by rw[hw];rfl⟩
 ·rw[hb]at hw
  exact⟨known,hk,by rw[hw];rfl⟩
theorem FS {s:GShow}(hs:aM s):∀ (n:Nat) (t:Int),12≤(n:Int)+t→Dt s t (ji n)
 | 0,t,h=>by
  intro known x hx ht hk
  have:=(bc hx).now
  have:=(bc hx).right.hor
  omega
 | n+1,t,h=>by
  intro known x hx ht hk
  exact Np hs hx (by rw[ht];exact FS hs n (t+1) (by omega)) hk
theorem KK {s:GShow}(hs:aM s)(t:Int)(h:0≤t):Dt s t m_impl_game_wins:=FS hs 40 t (by omega)
end Go.Proofs.Qc
set_option maxRecDepth 100000
namespace Go.Proofs.Qc
open Go
structure Ext (s:GShow) (x z:GState):Prop where
 t1:∀ i:Int,0≤i→i<s.nodes.length→tm x.times i≠-1→tm z.times i=tm x.times i
 t2:∀ i:Int,0≤i→i<s.nodes.length→tm x.times i=-1→tm z.times i=-1∨(x.now≤tm z.times i∧tm z.times i≤s.horizon)
 v:∀ k:Int,0≤k→tm x.values k≠0→tm z.values k=tm x.values k
theorem OK {s:GShow}{x:GState}(hx:aC s x=true)(hh:x.now≤s.horizon){ties:List Int}(ht:ties∈bD s x){nodes:List Int}(hn:nodes∈decL s (endX s x ties))(vs:List Int) :
  Ext s x (obsX (decX (endX s x ties) nodes) (az s nodes) vs):=by
 have hR:=bc hx
 obtain⟨_,_,ha⟩:=kB hR.ok ht
 have hM:=mF hx ht
 obtain⟨_,_,hm⟩:=dQ hM.right hn
 have hlen:(endX s x ties).times.length=s.nodes.length:=hM.len
 have e1:∀ i:Int,0≤i→tm (bk (fun k=>k) (endX s x ties).now nodes (endX s x ties).times) i=if i∈nodes then x.now else tm (endX s x ties).times i:=by
  intro i hi
  rw[vc _ _ _ _ _ hi (fun k hk=>by obtain⟨j,hj,e,_,_⟩:=oV (hm k hk);omega),List.map_id']
  rfl
 have hopen:∀ i:Int,0≤i→i∈nodes→tm (endX s x ties).times i=-1:=by
  intro i hi hmem
  obtain⟨j,hj,rfl,_,h⟩:=oV (hm i hmem)
  exact h
 have hto:∀ i:Int,0≤i→i∈ties.map (fun k=>(aK s k).to)→tm x.times i=-1:=by
  intro i hi hmem
  rw[List.mem_map]at hmem
  obtain⟨k,hk,rfl⟩:=hmem
  obtain⟨j,hj,rfl,_,_,h⟩:=uD (ha _ hk)
  rwa [dP hj]
 have eT:∀ i:Int,0≤i→tm (obsX (decX (endX s x ties) nodes) (az s nodes) vs).times i=if i∈nodes then x.now else if i∈ties.map (fun k=>(aK s k).to) then x.now else tm x.times i:=by
  intro i hi
  show tm (bk (fun k=>k) (endX s x ties).now nodes (endX s x ties).times) i=_
  rw[e1 i hi,zw hx ha hi]
 refine⟨?_,?_,?_⟩
 ·intro i hi hl hne
  rw[eT i hi]
  by_cases h2:i∈ties.map (fun k=>(aK s k).to)
  ·exact absurd (hto i hi h2) hne
  ·rw[if_neg h2]
   by_cases h1:i∈nodes
   ·have:=hopen i hi h1
    rw[zw hx ha hi,if_neg h2]at this
    exact absurd this hne
   ·rw[if_neg h1]
 ·intro i hi hl he
  rw[eT i hi]
  split
  ·right;omega
  ·split
   ·right;omega
   ·left;exact he
 ·intro k hk hne
  show tm (setV (az s nodes) vs x.values (az s nodes).length) k=_
  refine zx (bb hR.val).1 (fun p hp=>⟨(bN hp).1,(bN hp).2.1⟩) _ (Nat.le_refl _) k hk ?_
  intro i hi he
  have hpm:(az s nodes).getD i 0∈az s nodes:=by
   rw[List.getD_eq_getElem?_getD,List.getElem?_eq_getElem hi]
   exact List.getElem_mem _
  obtain⟨p1,p2,p3⟩:=bN hpm
  have hnx:=hM.nxt
  unfold aC at hnx
  simp only[Bool.and_eq_true,decide_eq_true_eq]at hnx
  have hw:=hnx.2 k.toNat (by show k.toNat<3;omega)
  unfold jJ at hw
  change (decide (tm x.values ((k.toNat:Nat):Int)≠0) == (decide (0≤aV s (((k.toNat:Nat):Int)+1))&&decide (tm (endX s x ties).times (aV s (((k.toNat:Nat):Int)+1))≠-1)))=true at hw
  rw[show((k.toNat:Nat):Int)=k by omega,show k+1=(az s nodes).getD i 0 by omega]at hw
  obtain⟨j,hj,e,_,h⟩:=oV (hm _ p3)
  rw[e,h]at hw
  simp only[ne_eq,not_true_eq_false,decide_false,Bool.and_false,beq_iff_eq,decide_eq_false_iff_not,Decidable.not_not]at hw
  exact hne hw
theorem Uj (ps:List Int):∃ vs,vs∈obsL ps:=by
 unfold obsL
 exact⟨_,List.mem_map.2 ⟨0,List.mem_range.2 (Nat.pow_pos (by omega)),rfl⟩⟩
theorem Qs {s:GShow}{x:GState}(h:x.now≤s.horizon):∃ ties,ties∈bD s x:=by
 unfold bD
 rw[if_neg (by omega)]
 exact⟨_,List.mem_map.2 ⟨0,List.mem_range.2 (Nat.pow_pos (by omega)),rfl⟩⟩
theorem IQ {s:GShow}:∀ (n:Nat) (x:GState),aC s x=true→12≤(n:Int)+x.now→win s x=true→∃ z,aC s z=true∧dC s z=false∧kG s z=true∧Ext s x z
 | 0,x,hx,h,_=>by
  have:=(bc hx).now
  have:=(bc hx).right.hor
  omega
 | n+1,x,hx,h,hw=>by
  have hR:=bc hx
  rw[IM hx]at hw
  unfold mE at hw
  cases hb:dC s x
  ·rw[hb]at hw
   simp only[Bool.false_eq_true,if_false]at hw
   cases ho:kG s x
   ·rw[ho]at hw
    simp only[Bool.false_eq_true,if_false]at hw
    have hh:x.now≤s.horizon:=by
     unfold dC at hb
     rw[Bool.or_eq_false_iff,ho]at hb
     have:=hb.2
     simp only[Bool.not_false,Bool.and_true,decide_eq_false_iff_not]at this
     omega
    obtain⟨ties,ht⟩:=Qs hh
    have h1:=List.all_eq_true.1 hw ties ht
    unfold anyB at h1
    rw[List.any_eq_true]at h1
    obtain⟨nodes,hn,h2⟩:=h1
    obtain⟨vs,hv⟩:=Uj (az s nodes)
    unfold bK at h2
    have h3:=List.all_eq_true.1 h2 vs hv
    obtain⟨l1,l2⟩:=tZ hv
    have hM:=mF hx ht
    obtain⟨_,_,hm⟩:=dQ hM.right hn
    have hy:=vT hM hm l1 l2
    obtain⟨z,z1,z2,z3,z4⟩:=IQ n _ hy (by show 12≤(n:Int)+(x.now+1);omega) h3
    have he:=OK hx hh ht hn vs
    refine⟨z,z1,z2,z3,?_,?_,?_⟩
    ·intro i hi hl hne
     rw[z4.t1 i hi hl (by rw[he.t1 i hi hl hne];exact hne),he.t1 i hi hl hne]
    ·intro i hi hl heq
     rcases he.t2 i hi hl heq with h5|h5
     ·rcases z4.t2 i hi hl h5 with h6|h6
      ·exact .inl h6
      ·refine .inr ⟨?_,h6.2⟩
       have:(obsX (decX (endX s x ties) nodes) (az s nodes) vs).now=x.now+1:=rfl
       omega
     ·rw[z4.t1 i hi hl (by have:=hR.now;omega)]
      exact .inr h5
    ·intro k hk hne
     rw[z4.v k hk (by rw[he.v k hk hne];exact hne),he.v k hk hne]
   ·exact⟨x,hx,hb,ho,fun _ _ _ _=>rfl,fun _ _ _ h=>.inl h,fun _ _ _=>rfl⟩
  ·rw[hb]at hw
   simp at hw
theorem Nq {l v:List Int}:dc l v=1↔∀ x,x∈l→1≤litV v x:=by
 unfold dc
 have key:∀ (l:List Int) (o:Int),o≤1→(l.foldl (fun o x=>if litV v x<o then litV v x else o) o=1↔o=1∧∀ x,x∈l→1≤litV v x)∧l.foldl (fun o x=>if litV v x<o then litV v x else o) o≤1:=by
  intro l
  induction l with
  | nil=>intro o ho;simp[ho]
  | cons x l ih=>
   intro o ho
   simp only[List.foldl_cons,List.mem_cons,forall_eq_or_imp]
   split
   ·rename_i h
    have:=ih (litV v x) (by omega)
    refine⟨?_,this.2⟩
    rw[this.1]
    constructor
    ·rintro⟨h1,h2⟩
     omega
    ·rintro⟨h1,h2,h3⟩
     omega
   ·rename_i h
    have:=ih o ho
    refine⟨?_,this.2⟩
    rw[this.1]
    constructor
    ·rintro⟨h1,h2⟩
     exact⟨h1,by omega,h2⟩
    ·rintro⟨h1,h2,h3⟩
     exact⟨h1,h3⟩
 have:=(key l 1 (by omega)).1
 simpa using this
def iF (s:GShow)(x:GState)(i:Int):Bool:=decide (dc (cu s i.toNat) x.values=1)
theorem OL {s:GShow}{x z:GState}(h:StR s x)(he:Ext s x z){i:Int}(h0:0≤i)(h1:i<s.nodes.length)(hs:iF s x i=true):iF s z i=true:=by
 unfold iF at hs ⊢
 rw[decide_eq_true_eq]at hs ⊢
 rw[Nq]at hs ⊢
 intro q hq
 have hl:=tw h.ok (i:=i.toNat) (by omega)
 rw[sP (show i.toNat<s.nodes.length by omega)]at hq hs
 obtain⟨p1,p2,p3⟩:=yl hl.1 hq
 have hpos:0≤pr q - 1:=by omega
 have:=hs q hq
 unfold litV at this ⊢
 split
 ·rename_i hlt
  rw[if_pos hlt]at this
  rw[he.v _ hpos (by omega)];exact this
 ·rename_i hlt
  rw[if_neg hlt]at this
  rw[he.v _ hpos (by omega)];exact this
structure Good (s:GShow) (x:GState) (T:Int→Int):Prop where
 fix:∀ i:Int,0≤i→i<s.nodes.length→iF s x i=true→tm x.times i≠-1→T i=tm x.times i
 free:∀ i:Int,0≤i→i<s.nodes.length→iF s x i=true→tm x.times i=-1→x.now≤T i∧T i≤s.horizon
 tie:∀ t,t∈s.ties→iF s x t.from_=true→iF s x t.to=true→t.low≤T t.to - T t.from_∧T t.to - T t.from_≤t.high
theorem OM {s:GShow}{x:GState}(hx:aC s x=true)(hw:win s x=true):∃ T,Good s x T:=by
 have hR:=bc hx
 obtain⟨z,z1,z2,z3,z4⟩:=IQ 12 x hx (by have:=hR.now;omega) hw
 have hZ:=bc z1
 have happ:∀ i:Int,0≤i→i<s.nodes.length→iF s x i=true→tm z.times i≠-1:=by
  intro i h0 h1 hs he
  have hsz:=OL hR z4 h0 h1 hs
  unfold kG at z3
  rw[vf,decide_eq_true_eq]at z3
  have:=z3 i.toNat (by omega)
  unfold se at this
  unfold iF at hsz
  rw[decide_eq_true_eq]at hsz
  rw[show((i.toNat:Nat):Int)=i by omega,he,hsz]at this
  simp at this
 refine⟨fun i=>tm z.times i,?_,?_,?_⟩
 ·intro i h0 h1 _ hne
  exact z4.t1 i h0 h1 hne
 ·intro i h0 h1 hs he
  rcases z4.t2 i h0 h1 he with h|h
  ·exact absurd h (happ i h0 h1 hs)
  ·exact h
 ·intro t ht h1 h2
  have hT:=hR.right.tie t ht
  have a1:=happ _ hT.f0 hT.f1 h1
  have a2:=happ _ hT.t0 hT.t1 h2
  unfold dC at z2
  rw[Bool.or_eq_false_iff,List.any_eq_false]at z2
  have:=z2.1 t ht
  unfold late at this
  rw[if_neg a1,if_neg a2]at this
  simp only[Bool.or_eq_true,decide_eq_true_eq,not_or]at this
  omega
structure HInv (s:GShow) (x:GState) (B:Int) (low high:List Int):Prop where
 l1:low.length=s.nodes.length
 l2:high.length=s.nodes.length
 b1:∀ i:Int,0≤i→i<s.nodes.length→-B≤tm low i∧tm low i≤B
 b2:∀ i:Int,0≤i→i<s.nodes.length→-B≤tm high i∧tm high i≤B
 good:∀ T,Good s x T→∀ i:Int,0≤i→i<s.nodes.length→iF s x i=true→tm low i≤T i∧T i≤tm high i
theorem HInv.mono {s:GShow}{x:GState}{B B':Int}{low high:List Int}(h:HInv s x B low high)(hb:B≤B'):HInv s x B' low high:=
 ⟨h.l1,h.l2,fun i a b=>by have:=h.b1 i a b;omega,fun i a b=>by have:=h.b2 i a b;omega,h.good⟩
theorem HInv.setLow {s:GShow}{x:GState}{B:Int}{low high:List Int}(h:HInv s x B low high){j v:Int}(h0:0≤j)(h1:j<s.nodes.length)(hv:-B≤v∧v≤B)(hg:∀ T,Good s x T→iF s x j=true→v≤T j):HInv s x B (low.set j.toNat v) high:=by
 refine⟨by rw[List.length_set];exact h.l1,h.l2,fun i a b=>?_,h.b2,fun T hT i a b hs=>?_⟩
 ·rw[uF _ _ _ _ h0 (by rw[h.l1];exact h1) a]
  split
  ·exact hv
  ·exact h.b1 i a b
 ·rw[uF _ _ _ _ h0 (by rw[h.l1];exact h1) a]
  have:=h.good T hT i a b hs
  split
  ·rename_i e;subst e;exact⟨hg T hT hs,this.2⟩
  ·exact this
theorem HInv.setHigh {s:GShow}{x:GState}{B:Int}{low high:List Int}(h:HInv s x B low high){j v:Int}(h0:0≤j)(h1:j<s.nodes.length)(hv:-B≤v∧v≤B)(hg:∀ T,Good s x T→iF s x j=true→T j≤v):HInv s x B low (high.set j.toNat v):=by
 refine⟨h.l1,by rw[List.length_set];exact h.l2,h.b1,fun i a b=>?_,fun T hT i a b hs=>?_⟩
 ·rw[uF _ _ _ _ h0 (by rw[h.l2];exact h1) a]
  split
  ·exact hv
  ·exact h.b2 i a b
 ·rw[uF _ _ _ _ h0 (by rw[h.l2];exact h1) a]
  have:=h.good T hT i a b hs
  split
  ·rename_i e;subst e;exact⟨this.1,hg T hT hs⟩
  ·exact this
theorem JX {s:GShow}{x:GState}(hs:aM s)(h:StR s x):∃ low high sure,kq s x=some (low,high,sure)∧HInv s x 11 low high∧sure=(List.range s.nodes.length).map (fun (i:Nat)=>iF s x (i:Int)):=by
 have hln:=h.len
 have h7:=h.right.nodes
 have hn:=h.now
 have hh:=h.right.hor
 let L:=fun i:Nat=>if tm x.times (i:Int)=-1 then x.now else tm x.times (i:Int)
 let Hh:=fun i:Nat=>if tm x.times (i:Int)=-1 then s.horizon else tm x.times (i:Int)
 let S:=fun i:Nat=>iF s x (i:Int)
 have key:aj (gU s.nodes ((s.nodes.length:Nat):Int) s.ties s.horizon x.now x.times x.values) (((0:Nat):Int),(List.range 0).map L,(List.range 0).map Hh,(List.range 0).map S)=some ((List.range s.nodes.length).map L,(List.range s.nodes.length).map Hh,(List.range s.nodes.length).map S):=by
  refine aE s.nodes.length (fun i=>((i:Int),(List.range i).map L,(List.range i).map Hh,(List.range i).map S)) ?_ ?_
  ·intro i hi
   obtain⟨b,e1,_,e2⟩:=lC hs h (k:=(i:Int)) (by omega) (by omega)
   unfold gU
   try simp only
   rw[if_pos (by omega),e1]
   simp only[obnd]
   rw[ew (by omega)]
   simp only
   rw[e2]
   simp only
   rw[ai (by simp;omega),ai (by simp;omega),ai (by simp;omega),ai (by simp;omega),ai (by simp;omega),ai (by simp;omega),wr (x:=(i:Int)+1) (by omega) (by omega),cJ,cJ,cJ]
   by_cases ht:tm x.times (i:Int)=-1
   ·rw[if_pos ht,show L i=x.now from if_pos ht,show Hh i=s.horizon from if_pos ht];rfl
   ·rw[if_neg ht,ai (by simp;omega),ai (by simp;omega),ai (by simp;omega),ai (by simp;omega),show L i=tm x.times (i:Int) from if_neg ht,show Hh i=tm x.times (i:Int) from if_neg ht];rfl
  ·unfold gU
   try simp only
   rw[if_neg (by omega)]
 refine⟨(List.range s.nodes.length).map L,(List.range s.nodes.length).map Hh,(List.range s.nodes.length).map S,?_,?_,rfl⟩
 ·unfold kq
  simp only[List.range_zero,List.map_nil,Int.natCast_zero]at key
  rw[key];rfl
 ·have tmL:∀ (f:Nat→Int) (i:Int),0≤i→i<s.nodes.length→tm ((List.range s.nodes.length).map f) i=f i.toNat:=by
   intro f i h0 h1
   unfold tm
   rw[List.getElem?_map,List.getElem?_range (show i.toNat<s.nodes.length by omega)];rfl
  refine⟨by simp,by simp,fun i a b=>?_,fun i a b=>?_,fun T hT i a b hs=>?_⟩
  ·rw[tmL L i a b]
   have:=h.all i a b
   show -11≤(if tm x.times ((i.toNat:Nat):Int)=-1 then x.now else tm x.times ((i.toNat:Nat):Int))∧_≤(11:Int)
   rw[show((i.toNat:Nat):Int)=i by omega]
   show -11≤(if tm x.times i=-1 then x.now else tm x.times i)∧(if tm x.times ((i.toNat:Nat):Int)=-1 then x.now else tm x.times ((i.toNat:Nat):Int))≤(11:Int)
   rw[show((i.toNat:Nat):Int)=i by omega]
   split <;> omega
  ·rw[tmL Hh i a b]
   have:=h.all i a b
   show -11≤(if tm x.times ((i.toNat:Nat):Int)=-1 then s.horizon else tm x.times ((i.toNat:Nat):Int))∧(if tm x.times ((i.toNat:Nat):Int)=-1 then s.horizon else tm x.times ((i.toNat:Nat):Int))≤(11:Int)
   rw[show((i.toNat:Nat):Int)=i by omega]
   split <;> omega
  ·rw[tmL L i a b,tmL Hh i a b]
   show(if tm x.times ((i.toNat:Nat):Int)=-1 then x.now else tm x.times ((i.toNat:Nat):Int))≤T i∧T i≤(if tm x.times ((i.toNat:Nat):Int)=-1 then s.horizon else tm x.times ((i.toNat:Nat):Int))
   rw[show((i.toNat:Nat):Int)=i by omega]
   by_cases ht:tm x.times i=-1
   ·rw[if_pos ht,if_pos ht];exact hT.free i a b hs ht
   ·rw[if_neg ht,if_neg ht,hT.fix i a b hs ht];omega
theorem JY {s:GShow}{x:GState}(h:StR s x)(r:Int)(sure:List Bool)(hsure:sure=(List.range s.nodes.length).map (fun (i:Nat)=>iF s x (i:Int)))(B:Int)(hB:0≤B∧B≤100000){low high:List Int}(hi:HInv s x B low high) :
  ∃ q,aj (fJ r s.ties ((s.ties.length:Nat):Int) s.nodes s.horizon sure) (0,low,high)=some q∧HInv s x (B+1120) q.1 q.2:=by
 have h14:=h.right.ties
 have getS:∀ k:Int,0≤k→k<s.nodes.length→getI sure k=some (iF s x k):=by
  intro k h0 h1
  have hk:k.toNat<sure.length:=by rw[hsure];simp;omega
  have:=ao hk
  rw[show((k.toNat:Nat):Int)=k by omega]at this
  rw[this]
  congr 1
  subst hsure
  simp only[List.getElem_map,List.getElem_range]
  rw[show((k.toNat:Nat):Int)=k by omega]
 refine bM s.ties.length (fun (i:Nat) (st:Int × List Int × List Int)=>st.1=(i:Int)∧HInv s x (B+80*(i:Int)) st.2.1 st.2.2) (fun (q:List Int × List Int)=>HInv s x (B+1120) q.1 q.2) ⟨rfl,hi.mono (by omega)⟩ ?_ ?_
 ·rintro i ⟨a,lo,hg⟩ hlt ⟨rfl,hv⟩
  simp only at hv
  have hT:=h.right.tie _ (List.getElem_mem hlt)
  have hc:B+80*(i:Int)≤200000:=by omega
  left
  unfold fJ
  try simp only
  rw[if_pos (by omega),ao hlt]
  simp only[obnd]
  rw[getS _ hT.f0 hT.f1]
  simp only
  cases hs1:iF s x s.ties[i].from_
  ·rw[if_neg (by simp),wr (x:=(i:Int)+1) (by omega) (by omega)]
   exact⟨_,rfl,rfl,hv.mono (by omega)⟩
  rw[if_pos rfl,getS _ hT.t0 hT.t1]
  simp only
  cases hs2:iF s x s.ties[i].to
  ·rw[if_neg (by simp),wr (x:=(i:Int)+1) (by omega) (by omega)]
   exact⟨_,rfl,rfl,hv.mono (by omega)⟩
  rw[if_pos rfl]
  have ht:=hT.lo
  have ht2:=hT.hi
  have ht3:=hT.lh
  have fl:=hT.f1
  have tl:=hT.t1
  have c1:=hv.b1 _ hT.f0 hT.f1
  have c2:=hv.b1 _ hT.t0 hT.t1
  have c3:=hv.b2 _ hT.f0 hT.f1
  have c4:=hv.b2 _ hT.t0 hT.t1
  rw[bl hT.t0 (by rw[hv.l1];omega),bl hT.f0 (by rw[hv.l1];omega),bl hT.t0 (by rw[hv.l2];omega),bl hT.f0 (by rw[hv.l2];omega)]
  simp only
  rw[wr (x:=tm lo s.ties[i].from_+s.ties[i].low) (by omega) (by omega),wr (x:=tm hg s.ties[i].from_+s.ties[i].high) (by omega) (by omega)]
  have v1:=(hv.mono (B':=B+80*(i:Int)+20) (by omega)).setLow (j:=s.ties[i].to) (v:=if tm lo s.ties[i].to<tm lo s.ties[i].from_+s.ties[i].low then tm lo s.ties[i].from_+s.ties[i].low else tm lo s.ties[i].to) hT.t0 hT.t1 (by split <;> omega) (by
   intro T hG hs
   have g1:=hG.tie _ (List.getElem_mem hlt) hs1 hs2
   have g2:=hv.good T hG _ hT.f0 hT.f1 hs1
   have g3:=hv.good T hG _ hT.t0 hT.t1 hs2
   split <;> omega)
  have v2:=v1.setHigh (j:=s.ties[i].to) (v:=if tm hg s.ties[i].from_+s.ties[i].high<tm hg s.ties[i].to then tm hg s.ties[i].from_+s.ties[i].high else tm hg s.ties[i].to) hT.t0 hT.t1 (by split <;> omega) (by
   intro T hG hs
   have g1:=hG.tie _ (List.getElem_mem hlt) hs1 hs2
   have g2:=hv.good T hG _ hT.f0 hT.f1 hs1
   have g3:=hv.good T hG _ hT.t0 hT.t1 hs2
   split <;> omega)
  generalize lo.set s.ties[i].to.toNat (if tm lo s.ties[i].to<tm lo s.ties[i].from_+s.ties[i].low then tm lo s.ties[i].from_+s.ties[i].low else tm lo s.ties[i].to)=lo1 at v2 ⊢
  generalize hg.set s.ties[i].to.toNat (if tm hg s.ties[i].from_+s.ties[i].high<tm hg s.ties[i].to then tm hg s.ties[i].from_+s.ties[i].high else tm hg s.ties[i].to)=hg1 at v2 ⊢
  have d1:=v2.b1 _ hT.f0 hT.f1
  have d2:=v2.b1 _ hT.t0 hT.t1
  have d3:=v2.b2 _ hT.f0 hT.f1
  have d4:=v2.b2 _ hT.t0 hT.t1
  rw[bl hT.f0 (by rw[v2.l1];omega),bl hT.t0 (by rw[v2.l1];omega),bl hT.f0 (by rw[v2.l2];omega),bl hT.t0 (by rw[v2.l2];omega)]
  simp only
  rw[wr (x:=tm lo1 s.ties[i].to - s.ties[i].high) (by omega) (by omega),wr (x:=tm hg1 s.ties[i].to - s.ties[i].low) (by omega) (by omega),wr (x:=(i:Int)+1) (by omega) (by omega)]
  have v3:=(v2.mono (B':=B+80*(i:Int)+40) (by omega)).setLow (j:=s.ties[i].from_) (v:=if tm lo1 s.ties[i].from_<tm lo1 s.ties[i].to - s.ties[i].high then tm lo1 s.ties[i].to - s.ties[i].high else tm lo1 s.ties[i].from_) hT.f0 hT.f1 (by split <;> omega) (by
   intro T hG hs
   have g1:=hG.tie _ (List.getElem_mem hlt) hs1 hs2
   have g2:=v2.good T hG _ hT.f0 hT.f1 hs1
   have g3:=v2.good T hG _ hT.t0 hT.t1 hs2
   split <;> omega)
  have v4:=v3.setHigh (j:=s.ties[i].from_) (v:=if tm hg1 s.ties[i].to - s.ties[i].low<tm hg1 s.ties[i].from_ then tm hg1 s.ties[i].to - s.ties[i].low else tm hg1 s.ties[i].from_) hT.f0 hT.f1 (by split <;> omega) (by
   intro T hG hs
   have g1:=hG.tie _ (List.getElem_mem hlt) hs1 hs2
   have g2:=v2.good T hG _ hT.f0 hT.f1 hs1
   have g3:=v2.good T hG _ hT.t0 hT.t1 hs2
   split <;> omega)
  exact⟨_,rfl,rfl,v4.mono (by omega)⟩
 ·rintro⟨a,lo,hg⟩ ⟨rfl,hv⟩
  unfold fJ
  try simp only
  rw[if_neg (by omega)]
  exact⟨_,rfl,hv.mono (by omega)⟩
theorem JZ {s:GShow}{x:GState}(hs:aM s)(hx:aC s x=true):∃ b,iQ s x=some b∧(b=true→win s x=false):=by
 have h:=bc hx
 have h7:=h.right.nodes
 obtain⟨low,high,sure,e1,hi,hsure⟩:=JX hs h
 have getS:∀ k:Nat,k<s.nodes.length→getI sure (k:Int)=some (iF s x (k:Int)):=by
  intro k h1
  have hk:k<sure.length:=by rw[hsure];simp;omega
  rw[ao hk]
  congr 1
  subst hsure
  simp only[List.getElem_map,List.getElem_range]
 unfold iQ
 rw[e1]
 simp only[obnd]
 have k3:=bM (body:=fK s.nodes s.ties s.horizon sure) (s0:=((0:Int),low,high)) s.nodes.length (fun i st=>st.1=(i:Int)∧HInv s x (11+1120*(i:Int)) st.2.1 st.2.2) (fun q=>HInv s x 100000 q.1 q.2) ⟨rfl,hi.mono (by omega)⟩ ?_ ?_
 ·obtain⟨q,e3,hq⟩:=k3
  rw[e3]
  simp only
  obtain⟨lo,hg⟩:=q
  simp only at hq ⊢
  have k4:=bM (body:=fL ((lo.length:Nat):Int) lo hg sure) (s0:=(0:Int)) lo.length (fun i st=>st=(i:Int)) (fun r=>r=.inl ()∨(r=.inr true∧∃ i:Int,0≤i∧i<s.nodes.length∧iF s x i=true∧tm hg i<tm lo i)) rfl ?_ ?_
  ·obtain⟨r,e4,hr⟩:=k4
   rw[e4]
   simp only
   rcases hr with rfl|⟨rfl,i,i0,i1,i2,i3⟩
   ·exact⟨false,rfl,fun h=>by cases h⟩
   ·refine⟨true,rfl,fun _=>?_⟩
    cases hw:win s x
    ·rfl
    ·obtain⟨T,hT⟩:=OM hx hw
     have:=hq.good T hT i i0 i1 i2
     omega
  ·rintro i a hlt rfl
   have hl1:=hq.l1
   unfold fL
   try simp only
   rw[if_pos (by omega),getS i (by omega)]
   simp only[obnd]
   cases hsu:iF s x (i:Int)
   ·rw[if_neg (by simp),wr (by omega) (by omega)]
    exact .inl ⟨_,rfl,rfl⟩
   ·rw[if_pos rfl,ew (by omega),ew (by rw[hq.l2];omega)]
    simp only
    by_cases hc:tm hg (i:Int)<tm lo (i:Int)
    ·rw[if_pos hc]
     exact .inr ⟨_,rfl,.inr ⟨rfl,(i:Int),by omega,by omega,hsu,hc⟩⟩
    ·rw[if_neg hc,wr (by omega) (by omega)]
     exact .inl ⟨_,rfl,rfl⟩
  ·rintro a rfl
   unfold fL
   try simp only
   rw[if_neg (by omega)]
   exact⟨_,rfl,.inl rfl⟩
 ·rintro i ⟨a,lo,hg⟩ hlt ⟨rfl,hv⟩
  simp only at hv
  obtain⟨q,e2,hq⟩:=JY h (i:Int) sure hsure (11+1120*(i:Int)) (by omega) hv
  unfold fK
  try simp only
  rw[if_pos (by omega),e2]
  simp only[obnd]
  rw[wr (by omega) (by omega)]
  exact .inl ⟨_,rfl,rfl,hq.mono (by omega)⟩
 ·rintro⟨a,lo,hg⟩ ⟨rfl,hv⟩
  unfold fK
  try simp only
  rw[if_neg (by omega)]
  exact⟨_,rfl,hv.mono (by omega)⟩
end Go.Proofs.Qc
