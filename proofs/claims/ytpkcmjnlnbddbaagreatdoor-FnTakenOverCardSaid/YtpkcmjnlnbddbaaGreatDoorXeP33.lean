/- Sort,Concat,members: what they come to. Own work. -/
import Derived.Test.YtpkcmjnlnbddbaaGreatDoorXeP24
set_option linter.all false
set_option maxRecDepth 100000
namespace Go.Proofs.Qe
open Go
def Asc (l:List Int):Prop:=l.Pairwise (fun a b=>a<b)
theorem EB:∀ {a b:List Int},Asc a→Asc b→(∀ x,x∈a↔x∈b)→a=b
 | [],[],_,_,_=>rfl
 | [],y::b,_,_,h=>absurd ((h y).2 (by simp)) (by simp)
 | x::a,[],_,_,h=>absurd ((h x).1 (by simp)) (by simp)
 | x::a,y::b,ha,hb,h=>by
  have ha':=List.pairwise_cons.1 ha
  have hb':=List.pairwise_cons.1 hb
  have hxy:x=y:=by
   have h1:=(h x).1 (by simp)
   have h2:=(h y).2 (by simp)
   rcases List.mem_cons.1 h1 with h1|h1
   ·exact h1
   ·rcases List.mem_cons.1 h2 with h2|h2
    ·exact h2.symm
    ·have:=hb'.1 x h1
     have:=ha'.1 y h2
     omega
  subst hxy
  rw[EB ha'.2 hb'.2 ?_]
  intro z
  have:=h z
  simp only[List.mem_cons]at this
  constructor
  ·intro hz
   rcases this.1 (.inr hz) with h1|h1
   ·have:=ha'.1 z hz;omega
   ·exact h1
  ·intro hz
   rcases this.2 (.inr hz) with h1|h1
   ·have:=hb'.1 z hz;omega
   ·exact h1
theorem vQ {l:List Int}{x:Int}(h:Asc l)(hx:∀ y,y∈l→y<x):Asc (l++[x]):=by
 unfold Asc
 rw[List.pairwise_append]
 exact⟨h,List.pairwise_singleton _ _,fun a ha b hb=>by rw[List.mem_singleton.1 hb];exact hx a ha⟩
theorem FJ {l:List Int}(h:l.Pairwise (fun a b=>a≤b))(hn:l.Nodup):Asc l:=by
 unfold Asc List.Nodup at *
 have:=h.and hn
 refine this.imp ?_
 intro a b hab
 have:=hab.1
 have:=hab.2
 omega
theorem Asc.nodup {l:List Int}(h:Asc l):l.Nodup:=by
 unfold List.Nodup
 exact h.imp (fun hab=>by omega)
theorem ul {α:Type}[DecidableEq α]:∀ {l r:List α},l.Nodup→(∀ x,x∈l→x∈r)→l.length≤r.length
 | [],_,_,_=>by simp
 | x::l,r,hn,h=>by
  have hn':=List.nodup_cons.1 hn
  have hx:=h x (by simp)
  have:=ul (l:=l) (r:=r.erase x) hn'.2 (fun y hy=>by
   rw[List.mem_erase_of_ne (by intro e;subst e;exact hn'.1 hy)]
   exact h y (by simp[hy]))
  rw[List.length_erase_of_mem hx]at this
  have:0<r.length:=List.length_pos_of_mem hx
  simp only[List.length_cons]
  omega
theorem EC {α:Type}(A:List α)(b:α)(C:List α):getI (A++b::C) ((A.length:Nat):Int)=some b:=by
 rw[an (by simp)]
 simp
theorem NJ {α:Type}(A:List α)(b z:α)(C:List α):(A++b::C).set A.length z=A++z::C:=by
 rw[List.set_append_right _ _ (Nat.le_refl _),Nat.sub_self];rfl
theorem KS (x y:Int):lM x y=some (decide (x<y)):=by
 unfold lM kM
 simp[obnd]
theorem Mi (b i x:Int):∀ (n:Nat) (P:List Int),P.length=n→n≤1000→∀ Q:List Int,∃ P1 P2,P=P1++P2∧(∀ y,y∈P2→x<y)∧(∀ A y,P1=A++[y]→y≤x) ∧
  ak (aM 0 b i) (((P.length:Nat):Int),P++x::Q)=some (P1++x::P2++Q):=by
 intro n
 induction n with
 | zero=>
  intro P hP _ Q
  obtain rfl:=List.length_eq_zero_iff.1 hP
  refine⟨[],[],rfl,by simp,fun A y h=>by simp at h,?_⟩
  rw[aZ]
  unfold aM
  simp
 | succ n ih=>
  intro P hP hn Q
  rcases List.eq_nil_or_concat P with rfl|⟨A,y,rfl⟩
  ·simp at hP
  rw[List.concat_eq_append]at *
  have hA:A.length=n:=by simpa using hP
  rw[aZ]
  have e1:getI (A++[y]++x::Q) (((A++[y]).length:Nat):Int)=some x:=EC _ _ _
  have e2:(((A++[y]).length:Nat):Int) - 1=((A.length:Nat):Int):=by simp
  have e3:getI (A++[y]++x::Q) ((A.length:Nat):Int)=some y:=by
   rw[List.append_assoc];exact EC _ _ _
  have e4:(A++[y]++x::Q).set (A++[y]).length y=A++y::(y::Q):=by
   rw[NJ];simp
  by_cases hxy:x<y
  ·obtain⟨P1,P2,h1,h2,h3,h4⟩:=ih A hA (by omega) (y::Q)
   refine⟨P1,P2++[y],by rw[h1];simp,?_,h3,?_⟩
   ·intro z hz
    rcases List.mem_append.1 hz with hz|hz
    ·exact h2 z hz
    ·rw[List.mem_singleton.1 hz];exact hxy
   ·have step:aM 0 b i (((A++[y]).length:Nat),A++[y]++x::Q)=some (.next (((A.length:Nat):Int),A++x::(y::Q))):=by
     unfold aM
     simp only
     rw[if_pos (by rw[List.length_append,List.length_singleton];omega),e1]
     simp only[obnd]
     rw[wr (x:=(((A++[y]).length:Nat):Int) - 1) (by rw[List.length_append,List.length_singleton];omega) (by rw[List.length_append,List.length_singleton];omega),e2,e3]
     simp only
     rw[KS]
     simp only
     rw[if_pos (decide_eq_true hxy),Int.toNat_natCast,e4,EC]
     simp only
     rw[Int.toNat_natCast,NJ]
    rw[step]
    simp only
    rw[h4]
    simp
  ·refine⟨A++[y],[],by simp,by simp,?_,?_⟩
   ·intro B z hz
    have:=List.append_inj_right' hz rfl
    simp at this
    omega
   ·have step:aM 0 b i (((A++[y]).length:Nat),A++[y]++x::Q)=some (.done (A++[y]++x::Q)):=by
     unfold aM
     simp only
     rw[if_pos (by rw[List.length_append,List.length_singleton];omega),e1]
     simp only[obnd]
     rw[wr (x:=(((A++[y]).length:Nat):Int) - 1) (by rw[List.length_append,List.length_singleton];omega) (by rw[List.length_append,List.length_singleton];omega),e2,e3]
     simp only
     rw[KS]
     simp only
     rw[if_neg (by rw[decide_eq_false hxy];simp)]
    rw[step]
    simp
theorem IH (l:List Int)(h:l.length≤12):∃ r,bY l 0 ((l.length:Nat):Int)=some r∧r.Perm l∧r.Pairwise (fun a b=>a≤b):=by
 unfold bY
 have key:∃ r,ak (bj 0 ((l.length:Nat):Int)) (1,l)=some r∧(r.Perm l∧r.Pairwise (fun a b=>a≤b)):=by
  by_cases h0:l.length=0
  ·obtain rfl:=List.length_eq_zero_iff.1 h0
   refine⟨[],?_,List.Perm.refl _,List.Pairwise.nil⟩
   rw[aZ]
   unfold bj
   simp
  refine bo (l.length - 1) (fun i st=>st.1=(i:Int)+1∧st.2.Perm l∧(st.2.take (i+1)).Pairwise (fun a b=>a≤b)) _ ⟨rfl,List.Perm.refl _,?_⟩ ?_ ?_
  ·cases l with
   | nil=>simp
   | cons x l=>simp
  ·rintro i ⟨j,L⟩ hi ⟨hj,hp,hs⟩
   simp only at hj hp hs
   subst hj
   have hL:=hp.length_eq
   have hd:L.drop (i+1)=L[i+1]'(by omega)::L.drop (i+2):=List.drop_eq_getElem_cons (by omega)
   have hsplit:L=L.take (i+1)++L[i+1]'(by omega)::L.drop (i+2):=by rw[← hd,List.take_append_drop]
   generalize hx:L[i+1]'(by omega)=x at hd hsplit
   generalize hA:L.take (i+1)=A at hs hsplit
   generalize hC:L.drop (i+2)=C at hsplit
   have hAl:A.length=i+1:=by rw[← hA,List.length_take];omega
   obtain⟨P1,P2,h1,h2,h3,h4⟩:=Mi ((l.length:Nat):Int) ((i:Int)+1) x A.length A rfl (by omega) C
   left
   refine⟨((i:Int)+1+1,P1++x::P2++C),?_,?_,?_,?_⟩
   ·unfold bj
    simp only
    rw[if_pos (by omega),hsplit,show(i:Int)+1=((A.length:Nat):Int) by omega]at *
    rw[h4]
    simp only[obnd]
    rw[wr (by omega) (by omega)]
   ·simp only;omega
   ·refine List.Perm.trans ?_ hp
    rw[hsplit,h1]
    simp only[List.append_assoc,List.cons_append]
    refine List.Perm.append_left P1 ?_
    exact(List.perm_middle (a:=x) (l₁:=P2) (l₂:=C)).symm
   ·simp only
    have hlen:(P1++x::P2).length=i+1+1:=by
     rw[h1]at hAl
     simp at hAl ⊢
     omega
    rw[← hlen,List.take_left]
    rw[h1]at hs
    obtain⟨s1,s2,s3⟩:=List.pairwise_append.1 hs
    rw[List.pairwise_append]
    refine⟨s1,List.pairwise_cons.2 ⟨fun y hy=>Int.le_of_lt (h2 y hy),s2⟩,?_⟩
    intro a ha b hb
    have hax:a≤x:=by
     rcases List.eq_nil_or_concat P1 with rfl|⟨B,y,rfl⟩
     ·simp at ha
     ·rw[List.concat_eq_append]at *
      have hy:=h3 B y rfl
      rcases List.mem_append.1 ha with ha|ha
      ·have:=(List.pairwise_append.1 s1).2.2 a ha y (by simp)
       omega
      ·rw[List.mem_singleton.1 ha];exact hy
    rcases List.mem_cons.1 hb with rfl|hb
    ·exact hax
    ·have:=h2 b hb;omega
  ·rintro⟨j,L⟩ ⟨hj,hp,hs⟩
   simp only at hj hp hs
   subst hj
   have hL:=hp.length_eq
   unfold bj
   simp only
   rw[if_neg (by omega)]
   refine⟨_,rfl,hp,?_⟩
   rw[List.take_of_length_le (by omega)]at hs
   exact hs
 obtain⟨r,e,hr⟩:=key
 rw[show IntKind.wrap .i64 (0+1)=1 from wr (by omega) (by omega),e]
 exact⟨r,rfl,hr⟩
theorem II:∀ n:Nat,n<13→(sM (IntKind.wrap .u64 (n:Int))).isSome=true:=by decide +kernel
theorem KT (l:List Int)(h:l.length≤12):∃ r,cA l=some r∧r.Perm l∧r.Pairwise (fun a b=>a≤b):=by
 unfold cA
 obtain⟨b,hb⟩:=Option.isSome_iff_exists.1 (II l.length (by omega))
 rw[hb]
 simp only[obnd]
 obtain⟨r,e,hr⟩:=IH l h
 have:cP l 0 ((l.length:Nat):Int) b=some r:=by
  unfold cP
  rw[aZ]
  unfold fG
  rw[wr (by omega) (by omega),if_pos (by omega),e]
  rfl
 rw[this]
 exact⟨r,rfl,hr⟩
theorem QT (n:Nat)(h:n≤1048576):je (n:Int)=some (List.replicate n 0,0):=by
 unfold je
 rw[if_neg (by omega),wr (x:=(0:Int) - 0) (by omega) (by omega),wr (x:=(n:Int) - (0 - 0)) (by omega) (by omega)]
 by_cases h0:0<n
 ·rw[if_pos (by omega),ah (by omega),ah (by omega),ah (by omega),show((n:Int) - (0 - 0)).toNat=n by omega]
 ·obtain rfl:n=0:=by omega
  rw[if_neg (by omega)];rfl
theorem FK (xs:List (List Int))(i:Nat)(hi:i<xs.length):(xs.take (i+1)).flatten=(xs.take i).flatten++xs[i]:=by
 rw[List.take_succ_eq_append_getElem hi,List.flatten_append]
 simp
theorem KU (xs:List (List Int))(i:Nat):(xs.take i).flatten.length≤xs.flatten.length:=by
 have:xs.flatten=(xs.take i).flatten++(xs.drop i).flatten:=by rw[← List.flatten_append,List.take_append_drop]
 rw[this,List.length_append];omega
theorem NK (xs:List (List Int))(h:xs.length≤1048576)(hf:xs.flatten.length≤1048576):gA xs=some xs.flatten:=by
 unfold gA
 have k1:ak (ep xs ((xs.length:Nat):Int)) ((((xs.take 0).flatten.length:Nat):Int),((0:Nat):Int))=some ((xs.flatten.length:Nat):Int):=by
  refine aH xs.length (fun i=>((((xs.take i).flatten.length:Nat):Int),(i:Int))) ?_ ?_
  ·intro i hi
   have e:=FK xs i hi
   have l1:=KU xs (i+1)
   have e':=congrArg List.length e
   rw[List.length_append]at e'
   unfold ep
   simp only
   rw[if_pos (by omega),an hi]
   simp only[obnd]
   rw[wr (x:=(((xs.take i).flatten.length:Nat):Int)+((xs[i].length:Nat):Int)) (by omega) (by omega),if_neg (by omega),wr (x:=(i:Int)+1) (by omega) (by omega)]
   congr 3
   omega
  ·unfold ep
   simp only
   rw[if_neg (by omega),List.take_length]
 simp only[List.take_zero,List.flatten_nil,List.length_nil,Int.natCast_zero]at k1
 rw[k1]
 simp only[obnd]
 rw[QT _ hf]
 simp only
 have k2:∃ q,ak (eu xs ((xs.length:Nat):Int)) (0,0,List.replicate xs.flatten.length 0)=some q∧(q.1≤q.2.length∧q.2.length≤xs.flatten.length∧q.2.take q.1=xs.flatten):=by
  refine bo xs.length (fun i st=>st.1=(xs.take i).flatten.length∧st.2.1=(i:Int)∧st.1≤st.2.2.length∧st.2.2.length≤xs.flatten.length∧st.2.2.take st.1=(xs.take i).flatten) _ ⟨by simp,rfl,by simp,by simp,by simp⟩ ?_ ?_
  ·rintro i ⟨n,j,L⟩ hi ⟨hn,hj,hl,hz,ht⟩
   simp only at hn hj hl hz ht
   subst hj
   have e:=FK xs i hi
   have l1:=KU xs (i+1)
   have e':=congrArg List.length e
   rw[List.length_append]at e'
   unfold eu
   simp only
   rw[if_pos (by omega),an hi,wr (x:=(i:Int)+1) (by omega) (by omega)]
   simp only[obnd]
   left
   by_cases h1:n=L.length
   ·rw[if_pos h1,ah (by omega),ah (by omega)]
    refine⟨_,rfl,by omega,rfl,by simp;omega,by simp only[List.length_append];omega,?_⟩
    rw[h1,List.take_length]at ht
    rw[List.take_of_length_le (by simp;omega),ht,e]
   ·rw[if_neg h1,ah (by omega)]
    by_cases h2:xs[i].length=0
    ·rw[if_pos h2]
     have h3:=List.length_eq_zero_iff.1 h2
     refine⟨_,rfl,by omega,rfl,hl,hz,?_⟩
     rw[e,h3,List.append_nil];exact ht
    ·rw[if_neg h2,ah (by omega),ah (by omega)]
     refine⟨_,rfl,by omega,rfl,by simp;omega,by simp only[List.length_append,List.length_take];omega,?_⟩
     rw[ht,e,List.take_of_length_le (by rw[List.length_append];omega)]
  ·rintro⟨n,j,L⟩ ⟨hn,hj,hl,hz,ht⟩
   simp only at hn hj hl hz ht
   subst hj
   unfold eu
   simp only
   rw[if_neg (by omega)]
   rw[List.take_length]at ht
   exact⟨_,rfl,hl,hz,ht⟩
 obtain⟨q,e,hl,hz,hq⟩:=k2
 have hq':=congrArg List.length hq
 rw[List.length_take]at hq'
 rw[e]
 simp only
 rw[ah hl,ah (by omega),hq]
def cz (set:Int)(i:Nat):Bool:=decide ((IntKind.wrap .i64 (((BitVec.ofInt (IntKind.bits .i64) (Int.fdiv set (2^(min i 64))) &&& BitVec.ofInt (IntKind.bits .i64) 1).toNat:Nat):Int))=1)
def sel (p:Nat→Bool)(l:List Int)(n:Nat):List Int:=((List.range n).filter p).map (fun j=>l.getD j 0)
theorem ED {p:Nat→Bool}{l:List Int}{n:Nat}(h:p n=true):sel p l (n+1)=sel p l n++[l.getD n 0]:=by
 unfold sel
 rw[List.range_succ,List.filter_append,List.map_append]
 simp[h]
theorem IJ {p:Nat→Bool}{l:List Int}{n:Nat}(h:p n=false):sel p l (n+1)=sel p l n:=by
 unfold sel
 rw[List.range_succ,List.filter_append,List.map_append]
 simp[h]
theorem ve (p:Nat→Bool)(l:List Int)(n:Nat):(sel p l n).length≤n:=by
 unfold sel
 rw[List.length_map]
 have:=List.length_filter_le p (List.range n)
 simpa using this
theorem KV {p:Nat→Bool}{l:List Int}{n:Nat}{x:Int}(h:x∈sel p l n):∃ i,i<n∧p i=true∧x=l.getD i 0:=by
 unfold sel at h
 simp only[List.mem_map,List.mem_filter,List.mem_range]at h
 obtain⟨i,⟨h1,h2⟩,rfl⟩:=h
 exact⟨i,h1,h2,rfl⟩
theorem IK {p:Nat→Bool}{l:List Int}{x:Int}(h:x∈sel p l l.length):x∈l:=by
 obtain⟨i,hi,_,rfl⟩:=KV h
 rw[List.getD_eq_getElem?_getD,List.getElem?_eq_getElem hi]
 exact List.getElem_mem hi
theorem EE {p:Nat→Bool}{l:List Int}(h:Asc l):∀ n,n≤l.length→Asc (sel p l n)
 | 0,_=>List.Pairwise.nil
 | n+1,hn=>by
  have ih:=EE (p:=p) h n (by omega)
  cases hp:p n
  ·rw[IJ hp];exact ih
  ·rw[ED hp]
   refine vQ ih ?_
   intro y hy
   obtain⟨i,hi,_,rfl⟩:=KV hy
   rw[List.getD_eq_getElem?_getD,List.getElem?_eq_getElem (by omega),List.getD_eq_getElem?_getD,List.getElem?_eq_getElem (by omega)]
   exact List.pairwise_iff_getElem.1 h i n (by omega) (by omega) hi
theorem Dd (l:List Int)(n:Int)(h:l.length≤1000):jH l n=some (sel (cz n) l l.length):=by
 unfold jH
 have key:ak (jd n l ((l.length:Nat):Int)) (((0:Nat):Int),sel (cz n) l 0)=some (sel (cz n) l l.length):=by
  refine aH l.length (fun i=>((i:Int),sel (cz n) l i)) ?_ ?_
  ·intro i hi
   have hs:=ve (cz n) l i
   unfold jd
   simp only
   rw[if_pos (by omega),bB hi]
   simp only[obnd]
   rw[ah (by omega),wr (x:=(i:Int)+1) (by omega) (by omega),Int.toNat_natCast]
   cases hb:cz n i
   ·rw[IJ hb]
    unfold cz at hb
    rw[if_neg (of_decide_eq_false hb)];rfl
   ·rw[ED hb]
    unfold cz at hb
    rw[if_pos (of_decide_eq_true hb),ah (by omega),ah (by omega)];rfl
  ·unfold jd
   simp only
   rw[if_neg (by omega)]
 rw[show(0:Int)=((0:Nat):Int) from rfl,show([]:List Int)=sel (cz n) l 0 from rfl,key];rfl
theorem wru {n:Nat}(h:n≤1000000):IntKind.wrap .u64 (n:Int)=n:=by
 show(n:Int) % 18446744073709551616=n
 omega
theorem qP (l:List Int)(n:Int)(h:l.length≤1000):fa l n=some (sel (cz n) l l.length):=by
 unfold fa
 have key:ak (iY n l ((l.length:Nat):Int)) (((0:Nat):Int),sel (cz n) l 0)=some (sel (cz n) l l.length):=by
  refine aH l.length (fun i=>((i:Int),sel (cz n) l i)) ?_ ?_
  ·intro i hi
   have hs:=ve (cz n) l i
   unfold iY
   simp only
   rw[if_pos (by omega),bB hi,wru (by omega)]
   simp only[obnd]
   rw[ah (by omega),wr (x:=(i:Int)+1) (by omega) (by omega),Int.toNat_natCast]
   cases hb:cz n i
   ·rw[IJ hb]
    unfold cz at hb
    rw[if_neg (of_decide_eq_false hb)];rfl
   ·rw[ED hb]
    unfold cz at hb
    rw[if_pos (of_decide_eq_true hb),ah (by omega),ah (by omega)];rfl
  ·unfold iY
   simp only
   rw[if_neg (by omega)]
 rw[show(0:Int)=((0:Nat):Int) from rfl,show([]:List Int)=sel (cz n) l 0 from rfl,key];rfl
noncomputable def mrg (a b:List Int):List Int:=(cA (a++b)).getD []
theorem FL {a b:List Int}(ha:Asc a)(hb:Asc b)(hd:∀ x,x∈a→x∈b→False)(h:a.length+b.length≤12) :
  cA (a++b)=some (mrg a b)∧Asc (mrg a b)∧(∀ x,x∈mrg a b↔x∈a∨x∈b)∧(mrg a b).length=a.length+b.length:=by
 obtain⟨r,e,hp,hs⟩:=KT (a++b) (by simpa using h)
 have hm:mrg a b=r:=by unfold mrg;rw[e];rfl
 rw[hm]
 refine⟨e,FJ hs ?_,?_,by rw[hp.length_eq,List.length_append]⟩
 ·refine hp.nodup_iff.2 ?_
  rw[List.nodup_append]
  exact⟨ha.nodup,hb.nodup,fun x hx y hy he=>hd x hx (he ▸ hy)⟩
 ·intro x
  rw[hp.mem_iff,List.mem_append]
theorem Ki {a b:List Int}(ha:Asc a)(hb:Asc b)(hd:∀ x,x∈a→x∈b→False)(h:a.length+b.length≤12):fD a b=some (mrg a b):=by
 obtain⟨_,m1,m2,_⟩:=FL ha hb hd h
 unfold fD
 have key:∃ r,ak (iq a b) (0,0,[])=some r∧(Asc r∧∀ x,x∈r↔x∈a∨x∈b):=by
  refine bo (a.length+b.length) (fun n st=>∃ i k:Nat,st.1=(i:Int)∧st.2.1=(k:Int)∧i+k=n∧i≤a.length∧k≤b.length∧st.2.2.length=n∧Asc st.2.2∧(∀ x,x∈st.2.2↔x∈a.take i∨x∈b.take k) ∧
   (∀ x,x∈st.2.2→(∀ hi:i<a.length,x<a[i])∧(∀ hk:k<b.length,x<b[k]))) (fun r=>Asc r∧∀ x,x∈r↔x∈a∨x∈b) ?_ ?_ ?_
  ·exact⟨0,0,rfl,rfl,rfl,Nat.zero_le _,Nat.zero_le _,rfl,List.Pairwise.nil,by simp,by simp⟩
  ·rintro n ⟨i',k',out⟩ hn ⟨i,k,h1,h2,h3,h4,h5,h6,h7,h8,h9⟩
   simp only at h1 h2 h6 h7 h8 h9
   subst h1 h2
   left
   have takeA:∀ hi:i<a.length,(∀ hk:k<b.length,a[i]<b[k])→∃ s',(some (Step.next ((i:Int)+1,(k:Int),out++[a[i]])):Option (Step (Int × Int × List Int) (List Int)))=some (.next s')∧∃ i2 k2:Nat,s'.1=(i2:Int)∧s'.2.1=(k2:Int)∧i2+k2=n+1∧i2≤a.length∧k2≤b.length∧s'.2.2.length=n+1∧Asc s'.2.2∧(∀ x,x∈s'.2.2↔x∈a.take i2∨x∈b.take k2) ∧
     (∀ x,x∈s'.2.2→(∀ hi:i2<a.length,x<a[i2])∧(∀ hk:k2<b.length,x<b[k2])):=by
    intro hi hlt
    refine⟨_,rfl,i+1,k,by simp,rfl,by omega,hi,h5,by simp[h6],vQ h7 (fun y hy=>(h9 y hy).1 hi),?_,?_⟩
    ·intro x
     rw[List.take_succ_eq_append_getElem hi]
     simp only[List.mem_append,List.mem_singleton,h8]
     constructor
     ·rintro((hx|hx)|hx)
      ·exact .inl (.inl hx)
      ·exact .inr hx
      ·exact .inl (.inr hx)
     ·rintro((hx|hx)|hx)
      ·exact .inl (.inl hx)
      ·exact .inr hx
      ·exact .inl (.inr hx)
    ·intro x hx
     rcases List.mem_append.1 hx with hx|hx
     ·refine⟨fun hi2=>?_,fun hk=>(h9 x hx).2 hk⟩
      have:=(h9 x hx).1 hi
      have:=List.pairwise_iff_getElem.1 ha i (i+1) hi hi2 (by omega)
      omega
     ·rw[List.mem_singleton.1 hx]
      exact⟨fun hi2=>List.pairwise_iff_getElem.1 ha i (i+1) hi hi2 (by omega),fun hk=>hlt hk⟩
   have takeB:∀ hk:k<b.length,(∀ hi:i<a.length,b[k]<a[i])→∃ s',(some (Step.next ((i:Int),(k:Int)+1,out++[b[k]])):Option (Step (Int × Int × List Int) (List Int)))=some (.next s')∧∃ i2 k2:Nat,s'.1=(i2:Int)∧s'.2.1=(k2:Int)∧i2+k2=n+1∧i2≤a.length∧k2≤b.length∧s'.2.2.length=n+1∧Asc s'.2.2∧(∀ x,x∈s'.2.2↔x∈a.take i2∨x∈b.take k2) ∧
     (∀ x,x∈s'.2.2→(∀ hi:i2<a.length,x<a[i2])∧(∀ hk:k2<b.length,x<b[k2])):=by
    intro hk hlt
    refine⟨_,rfl,i,k+1,rfl,by simp,by omega,h4,hk,by simp[h6],vQ h7 (fun y hy=>(h9 y hy).2 hk),?_,?_⟩
    ·intro x
     rw[List.take_succ_eq_append_getElem hk]
     simp only[List.mem_append,List.mem_singleton,h8]
     constructor
     ·rintro((hx|hx)|hx)
      ·exact .inl hx
      ·exact .inr (.inl hx)
      ·exact .inr (.inr hx)
     ·rintro(hx|hx|hx)
      ·exact .inl (.inl hx)
      ·exact .inl (.inr hx)
      ·exact .inr hx
    ·intro x hx
     rcases List.mem_append.1 hx with hx|hx
     ·refine⟨fun hi=>(h9 x hx).1 hi,fun hk2=>?_⟩
      have:=(h9 x hx).2 hk
      have:=List.pairwise_iff_getElem.1 hb k (k+1) hk hk2 (by omega)
      omega
     ·rw[List.mem_singleton.1 hx]
      exact⟨fun hi=>hlt hi,fun hk2=>List.pairwise_iff_getElem.1 hb k (k+1) hk hk2 (by omega)⟩
   unfold iq
   simp only
   have c1:(out.length+1)*8≤140737488355328:=by omega
   have c2:out.length+1≤9223372036854775807:=by omega
   simp only[ah c1,ah c2]
   rw[wr (x:=(i:Int)+1) (by omega) (by omega),wr (x:=(k:Int)+1) (by omega) (by omega)]
   by_cases hi:i<a.length
   ·rw[if_pos (by omega)]
    by_cases hk:k<b.length
    ·rw[if_neg (by omega),an hi,an hk]
     simp only[obnd]
     by_cases hlt:a[i]<b[k]
     ·rw[if_pos hlt];exact takeA hi (fun _=>hlt)
     ·rw[if_neg hlt]
      refine takeB hk (fun _=>?_)
      have:a[i]≠b[k]:=fun e=>hd a[i] (List.getElem_mem hi) (e ▸ List.getElem_mem hk)
      omega
    ·rw[if_pos (by omega),an hi]
     simp only[obnd]
     exact takeA hi (fun hk'=>absurd hk' hk)
   ·have hk:k<b.length:=by omega
    rw[if_neg (by omega),if_pos (by omega),if_neg (by omega),an hk]
    simp only[obnd]
    exact takeB hk (fun hi'=>absurd hi' hi)
  ·rintro⟨i',k',out⟩ ⟨i,k,h1,h2,h3,h4,h5,h6,h7,h8,h9⟩
   simp only at h1 h2 h6 h7 h8 h9
   subst h1 h2
   obtain rfl:i=a.length:=by omega
   obtain rfl:k=b.length:=by omega
   unfold iq
   simp only
   rw[if_neg (by omega),if_neg (by omega)]
   refine⟨_,rfl,h7,?_⟩
   simpa using h8
 obtain⟨r,e,r1,r2⟩:=key
 rw[e]
 simp only[obnd]
 rw[EB r1 m1 (fun x=>by rw[r2,m2])]
end Go.Proofs.Qe
set_option maxRecDepth 100000
namespace Go.Proofs.Qe
open Go
structure WH (s:GShow) (i:Nat) (t:GTie):Prop where
 low:1≤t.low
 t0:t.to≠0
 watch:∀ b,s.nodes[t.to.toNat]?=some b→b.watch=0
 one:∀ j (hj:j<s.ties.length),j<i→s.ties[j].free=true→s.ties[j].to≠t.to
theorem oV {s:GShow}(h:aI s=true){i:Nat}(hi:i<s.ties.length)(hf:s.ties[i].free=true):WH s i s.ties[i]:=by
 have hR:=bZ h
 have hT:=hR.tie _ (List.getElem_mem hi)
 unfold aI at h
 simp only[Bool.and_eq_true,decide_eq_true_eq]at h
 have hp:=h.1.1.1.2 i hi
 rw[sZ hi,Bool.and_eq_true]at hp
 have hF:=hp.2
 unfold mJ at hF
 rw[hf]at hF
 simp only[Bool.not_true,Bool.false_or,Bool.and_eq_true,decide_eq_true_eq]at hF
 obtain⟨⟨⟨h1,h2⟩,h3⟩,h4⟩:=hF
 have a1:=hT.t1
 have a2:=hT.f1
 have b1:s.nodes[s.ties[i].to.toNat]?=some (s.nodes[s.ties[i].to.toNat]'(by have:=hT.t0;omega)):=List.getElem?_eq_getElem _
 have b2:s.nodes[s.ties[i].from_.toNat]?=some (s.nodes[s.ties[i].from_.toNat]'(by have:=hT.f0;omega)):=List.getElem?_eq_getElem _
 rw[b1,b2]at h3
 simp only[decide_eq_true_eq]at h3
 refine⟨h1,h2,?_,?_⟩
 ·intro b hb
  rw[b1]at hb
  cases hb
  exact h3.1
 ·intro j hj hji hfj he
  rw[Bool.not_eq_true',List.any_eq_false]at h4
  refine h4 s.ties[j] ?_ (by rw[hfj,decide_eq_true he];rfl)
  exact List.mem_take_iff_getElem.2 ⟨j,by omega,rfl⟩
theorem qQ (p:Nat→Bool):∀ n,Asc (bd p n)
 | 0=>List.Pairwise.nil
 | n+1=>by
  cases hp:p n
  ·rw[cf hp];exact qQ p n
  ·rw[fL hp]
   refine vQ (qQ p n) ?_
   intro y hy
   obtain⟨i,hi,_,rfl⟩:=kY.1 hy
   omega
theorem AR (s:GShow)(x:GState):Asc (actL s x):=qQ _ _
theorem tG {s:GShow}{x:GState}{k:Int}(h:k∈actL s x):∃ i,∃ hi:i<s.ties.length,k=(i:Int)∧s.ties[i].free=true∧tm x.times s.ties[i].from_≠-1∧tm x.times s.ties[i].to=-1:=by
 obtain⟨i,hi,hp,rfl⟩:=kY.1 h
 unfold ml at hp
 rw[List.getElem?_eq_getElem hi]at hp
 simp only[Option.any_some]at hp
 unfold actT at hp
 simp only[Bool.and_eq_true,decide_eq_true_eq]at hp
 exact⟨i,hi,rfl,hp.1,hp.2.1,hp.2.2⟩
theorem IL {s:GShow}(h:aI s=true){i j:Nat}(hi:i<s.ties.length)(hj:j<s.ties.length)(hf:s.ties[i].free=true)(hg:s.ties[j].free=true)(he:s.ties[i].to=s.ties[j].to):i=j:=by
 rcases Nat.lt_trichotomy i j with hlt|he'|hlt
 ·exact absurd he ((oV h hj hg).one i hi hlt hf)
 ·exact he'
 ·exact absurd he.symm ((oV h hi hf).one j hj hlt hg)
theorem sW {s:GShow}(h:aI s=true)(x:GState):(actL s x).length≤6:=by
 have hR:=bZ h
 have hn:=hR.nodes
 have hnd:((actL s x).map (fun k=>(bH s k).to)).Nodup:=by
  unfold List.Nodup
  rw[List.pairwise_map]
  refine List.Pairwise.imp_of_mem ?_ (AR s x)
  intro a b ha hb hab he
  obtain⟨i,hi,rfl,hf,_,_⟩:=tG ha
  obtain⟨j,hj,rfl,hg,_,_⟩:=tG hb
  rw[iT hi,iT hj]at he
  have:=IL h hi hj hf hg he
  omega
 have:=ul (r:=[1,2,3,4,5,6]) hnd (fun y hy=>by
  rw[List.mem_map]at hy
  obtain⟨k,hk,rfl⟩:=hy
  obtain⟨i,hi,rfl,hf,_,_⟩:=tG hk
  rw[iT hi]
  have hT:=hR.tie _ (List.getElem_mem hi)
  have h0:=(oV h hi hf).t0
  have h1:=hT.t0
  have h2:=hT.t1
  simp only[List.mem_cons,List.not_mem_nil,or_false]
  omega)
 simpa using this
def mY (s:GShow)(x:GState)(k:Int):Bool:=decide ((bH s k).high≤x.now - tm x.times (bH s k).from_)
def mayT (s:GShow)(x:GState)(k:Int):Bool:=!mY s x k&&decide ((bH s k).low≤x.now - tm x.times (bH s k).from_)
def kZ (s:GShow)(x:GState):List Int:=(actL s x).filter (mY s x)
def mayL (s:GShow)(x:GState):List Int:=(actL s x).filter (mayT s x)
noncomputable def lb (s:GShow)(x:GState)(n:Nat):List Int:=mrg (kZ s x) (sel (cz (n:Int)) (mayL s x) (mayL s x).length)
noncomputable def bm (s:GShow)(x:GState):List (List Int):=if s.horizon<x.now then [] else (List.range (2^(mayL s x).length)).map (lb s x)
theorem De {α:Type}(p q:α→Bool)(h:∀ x,p x=true→q x=false):∀ l:List α,(l.filter p).length+(l.filter q).length≤l.length
 | []=>by simp
 | x::l=>by
  have ih:=De p q h l
  have hx:=h x
  cases hp:p x
  ·cases hq:q x <;> simp[List.filter_cons,hp,hq] <;> omega
  ·rw[hp]at hx
   have:=hx rfl
   simp[List.filter_cons,hp,this];omega
theorem tH (s:GShow)(x:GState):(kZ s x).length+(mayL s x).length≤(actL s x).length:=De _ _ (fun k h=>by unfold mayT;rw[h];rfl) _
theorem FM (s:GShow)(x:GState):Asc (kZ s x):=(AR s x).filter _
theorem Pj (s:GShow)(x:GState):Asc (mayL s x):=(AR s x).filter _
theorem Mj (s:GShow)(x:GState)(k:Int)(h1:k∈kZ s x)(h2:k∈mayL s x):False:=by
 have a:=(List.mem_filter.1 h1).2
 have b:=(List.mem_filter.1 h2).2
 unfold mayT at b
 rw[a]at b
 simp at b
theorem rK {s:GShow}(h:aI s=true)(x:GState)(n:Nat) :
  cA (kZ s x++sel (cz (n:Int)) (mayL s x) (mayL s x).length)=some (lb s x n)∧fD (kZ s x) (sel (cz (n:Int)) (mayL s x) (mayL s x).length)=some (lb s x n) ∧
  Asc (lb s x n)∧(∀ k,k∈lb s x n→k∈actL s x)∧(lb s x n).length=(kZ s x).length+(sel (cz (n:Int)) (mayL s x) (mayL s x).length).length∧(lb s x n).length≤6:=by
 have h6:=sW h x
 have hmm:=tH s x
 have hsl:=ve (cz (n:Int)) (mayL s x) (mayL s x).length
 have hasc:=EE (p:=cz (n:Int)) (Pj s x) (mayL s x).length (Nat.le_refl _)
 have hdis:∀ k,k∈kZ s x→k∈sel (cz (n:Int)) (mayL s x) (mayL s x).length→False:=fun k h1 h2=>Mj s x k h1 (IK h2)
 obtain⟨m1,m2,m3,m4⟩:=FL (FM s x) hasc hdis (by omega)
 refine⟨m1,Ki (FM s x) hasc hdis (by omega),m2,?_,m4,by unfold lb;omega⟩
 intro k hk
 rcases(m3 k).1 hk with h1|h1
 ·exact(List.mem_filter.1 h1).1
 ·exact(List.mem_filter.1 (IK h1)).1
theorem oW {α:Type}(p:α→Bool){l:List α}{i:Nat}(hi:i<l.length):(l.take (i+1)).filter p=(l.take i).filter p++(if p l[i]=true then [l[i]] else []):=by
 rw[List.take_succ_eq_append_getElem hi,List.filter_append]
 cases hp:p l[i] <;> simp[hp]
theorem cI {α:Type}(f:Nat→α)(n:Nat):(List.range (n+1)).map f=(List.range n).map f++[f n]:=by
 rw[List.range_succ,List.map_append];rfl
theorem pm {m:Nat}(h:m≤7):2^m≤128:=by
 have:∀ m:Nat,m<8→2^m≤128:=by decide
 exact this m (by omega)
theorem lR {m:Nat}(h:m≤7):IntKind.wrap .i64 (1*2^(min m 64))=((2^m:Nat):Int):=by
 have hb:=pm h
 rw[Nat.min_eq_left (by omega),Int.one_mul]
 have:(2:Int)^m=((2^m:Nat):Int):=by simp
 rw[this]
 generalize 2^m=q at *
 exact wr (by omega) (by omega)
theorem IM {s:GShow}{x:GState}(hx:aB s x=true){i:Nat}(hi:i<(actL s x).length) :
  getI s.ties (actL s x)[i]=some (bH s (actL s x)[i])∧getI x.times (bH s (actL s x)[i]).from_=some (tm x.times (bH s (actL s x)[i]).from_) ∧
  IntKind.wrap .i64 (x.now - tm x.times (bH s (actL s x)[i]).from_)=x.now - tm x.times (bH s (actL s x)[i]).from_:=by
 have hR:=cD hx
 have hnow:=Mf hx
 have hlen:=hR.len
 obtain⟨j,hj,e,hf,_,_⟩:=tG (List.getElem_mem hi)
 rw[e,iT hj]
 have hT:=hR.right.tie _ (List.getElem_mem hj)
 have hb:=hR.all _ hT.f0 hT.f1
 refine⟨an hj,bJ hT.f0 (by have:=hT.f1;omega),wr (by omega) (by omega)⟩
theorem vR {s:GShow}{x:GState}(hx:aB s x=true):gZ s x=some (bm s x):=by
 have hR:=cD hx
 have hok:aI s=true:=by unfold aB at hx;simp only[Bool.and_eq_true]at hx;exact hx.1.1.1.1.1
 have h6:=sW hok x
 have hmm:=tH s x
 unfold gZ bm
 by_cases hh:s.horizon<x.now
 ·rw[if_pos hh,if_pos hh]
 rw[if_neg hh,if_neg hh,FG s x hR]
 simp only[obnd]
 have k1:ak (jg (((actL s x).length:Nat):Int) s.nodes s.ties s.horizon x.now x.times x.values (actL s x)) (((0:Nat):Int),((actL s x).take 0).filter (mY s x),((actL s x).take 0).filter (mayT s x))=some (kZ s x,mayL s x):=by
  refine aH (actL s x).length (fun i=>((i:Int),((actL s x).take i).filter (mY s x),((actL s x).take i).filter (mayT s x))) ?_ ?_
  ·intro i hi
   obtain⟨e1,e2,e3⟩:=IM hx hi
   have l1:=List.length_filter_le (mY s x) ((actL s x).take i)
   have l2:=List.length_filter_le (mayT s x) ((actL s x).take i)
   rw[List.length_take]at l1 l2
   unfold jg
   simp only
   rw[if_pos (by omega),an hi]
   simp only[obnd]
   rw[e1]
   simp only
   rw[e2]
   simp only
   rw[e3,ah (by omega),ah (by omega),ah (by omega),ah (by omega),wr (x:=(i:Int)+1) (by omega) (by omega),oW (mY s x) hi,oW (mayT s x) hi]
   by_cases hm:(bH s (actL s x)[i]).high≤x.now - tm x.times (bH s (actL s x)[i]).from_
   ·have a1:mY s x (actL s x)[i]=true:=decide_eq_true hm
    have a2:mayT s x (actL s x)[i]=false:=by unfold mayT;rw[a1];rfl
    rw[if_pos hm,a1,a2];simp
   ·have a1:mY s x (actL s x)[i]=false:=decide_eq_false hm
    rw[if_neg hm,a1]
    by_cases hl:(bH s (actL s x)[i]).low≤x.now - tm x.times (bH s (actL s x)[i]).from_
    ·have a2:mayT s x (actL s x)[i]=true:=by unfold mayT;rw[a1,decide_eq_true hl];rfl
     rw[if_pos hl,a2];simp
    ·have a2:mayT s x (actL s x)[i]=false:=by unfold mayT;rw[a1,decide_eq_false hl];rfl
     rw[if_neg hl,a2];simp
  ·unfold jg
   simp only
   rw[if_neg (by omega),List.take_length];rfl
 simp only[List.take_zero,List.filter_nil,Int.natCast_zero]at k1
 rw[k1]
 simp only
 have hpow:=pm (m:=(mayL s x).length) (by omega)
 have k2:ak (jh (kZ s x) (mayL s x)) (((0:Nat):Int),(List.range 0).map (lb s x))=some ((List.range (2^(mayL s x).length)).map (lb s x)):=by
  refine aH (2^(mayL s x).length) (fun i=>((i:Int),(List.range i).map (lb s x))) ?_ ?_
  ·intro i hi
   obtain⟨f1,f2,f3,f4,f5,f6⟩:=rK hok x i
   have hsl:=ve (cz (i:Int)) (mayL s x) (mayL s x).length
   unfold jh
   simp only
   rw[ah (by omega),lR (by omega),if_pos (by omega),Dd _ _ (by omega)]
   simp only[obnd]
   rw[NK _ (by simp) (by simp;omega)]
   simp only
   rw[show[kZ s x,sel (cz (i:Int)) (mayL s x) (mayL s x).length].flatten=kZ s x++sel (cz (i:Int)) (mayL s x) (mayL s x).length by simp,f1]
   simp only
   rw[ah (by rw[f5,List.length_append]),ah (by simp;omega),ah (by simp;omega),wr (x:=(i:Int)+1) (by omega) (by omega),cI];rfl
  ·unfold jh
   simp only
   rw[ah (by omega),lR (by omega),if_neg (by omega)]
 simp only[List.range_zero,List.map_nil,Int.natCast_zero]at k2
 rw[k2]
theorem wo {s:GShow}{x:GState}(hx:aB s x=true):fZ s x=some (kZ s x,mayL s x):=by
 have hR:=cD hx
 have hok:aI s=true:=by unfold aB at hx;simp only[Bool.and_eq_true]at hx;exact hx.1.1.1.1.1
 have h6:=sW hok x
 unfold fZ
 rw[IB s x hR]
 simp only[obnd]
 have k1:ak (fC (((actL s x).length:Nat):Int) s.nodes s.ties s.horizon x.now x.times x.values (actL s x)) (((0:Nat):Int),((actL s x).take 0).filter (mY s x),((actL s x).take 0).filter (mayT s x))=some (kZ s x,mayL s x):=by
  refine aH (actL s x).length (fun i=>((i:Int),((actL s x).take i).filter (mY s x),((actL s x).take i).filter (mayT s x))) ?_ ?_
  ·intro i hi
   obtain⟨e1,e2,e3⟩:=IM hx hi
   have l1:=List.length_filter_le (mY s x) ((actL s x).take i)
   have l2:=List.length_filter_le (mayT s x) ((actL s x).take i)
   rw[List.length_take]at l1 l2
   unfold fC
   simp only
   rw[if_pos (by omega),an hi]
   simp only[obnd]
   rw[e1]
   simp only
   rw[e2]
   simp only
   rw[e3,ah (by omega),ah (by omega),ah (by omega),ah (by omega),wr (x:=(i:Int)+1) (by omega) (by omega),oW (mY s x) hi,oW (mayT s x) hi]
   by_cases hm:(bH s (actL s x)[i]).high≤x.now - tm x.times (bH s (actL s x)[i]).from_
   ·have a1:mY s x (actL s x)[i]=true:=decide_eq_true hm
    have a2:mayT s x (actL s x)[i]=false:=by unfold mayT;rw[a1];rfl
    rw[if_pos hm,a1,a2];simp
   ·have a1:mY s x (actL s x)[i]=false:=decide_eq_false hm
    rw[if_neg hm,a1]
    by_cases hl:(bH s (actL s x)[i]).low≤x.now - tm x.times (bH s (actL s x)[i]).from_
    ·have a2:mayT s x (actL s x)[i]=true:=by unfold mayT;rw[a1,decide_eq_true hl];rfl
     rw[if_pos hl,a2];simp
    ·have a2:mayT s x (actL s x)[i]=false:=by unfold mayT;rw[a1,decide_eq_false hl];rfl
     rw[if_neg hl,a2];simp
  ·unfold fC
   simp only
   rw[if_neg (by omega),List.take_length];rfl
 simp only[List.take_zero,List.filter_nil,Int.natCast_zero]at k1
 rw[k1]
theorem tI {s:GShow}{x:GState}(hs:aR s)(hx:aB s x=true)(h1:x.times.length≤1048576)(h2:x.values.length≤1048576):gU s x=some (bm s x):=by
 have hR:=cD hx
 have hok:aI s=true:=by unfold aB at hx;simp only[Bool.and_eq_true]at hx;exact hx.1.1.1.1.1
 have h6:=sW hok x
 have hmm:=tH s x
 unfold gU bm
 rw[tF s x hs h1 h2,hx]
 simp only[obnd,if_true]
 by_cases hh:s.horizon<x.now
 ·rw[if_pos hh,if_pos hh]
 rw[if_neg hh,if_neg hh,wo hx]
 simp only
 have hpow:=pm (m:=(mayL s x).length) (by omega)
 have k2:ak (gr (kZ s x) (mayL s x)) (((0:Nat):Int),(List.range 0).map (lb s x))=some ((List.range (2^(mayL s x).length)).map (lb s x)):=by
  refine aH (2^(mayL s x).length) (fun i=>((i:Int),(List.range i).map (lb s x))) ?_ ?_
  ·intro i hi
   obtain⟨f1,f2,f3,f4,f5,f6⟩:=rK hok x i
   unfold gr
   simp only
   rw[wru (by omega),ah (by omega),Int.toNat_natCast,lR (by omega),if_pos (by omega),qP _ _ (by omega)]
   simp only[obnd]
   rw[f2]
   simp only
   rw[ah (by simp;omega),ah (by simp;omega),wr (x:=(i:Int)+1) (by omega) (by omega),cI];rfl
  ·unfold gr
   simp only
   rw[wru (by omega),ah (by omega),Int.toNat_natCast,lR (by omega),if_neg (by omega)]
 simp only[List.range_zero,List.map_nil,Int.natCast_zero]at k2
 rw[k2]
theorem ia {s:GShow}{x:GState}(hok:aI s=true){ties:List Int}(h:ties∈bm s x):x.now≤s.horizon∧ties.length≤6∧(∀ k,k∈ties→k∈actL s x):=by
 unfold bm at h
 by_cases hh:s.horizon<x.now
 ·rw[if_pos hh]at h;simp at h
 rw[if_neg hh,List.mem_map]at h
 obtain⟨n,_,rfl⟩:=h
 obtain⟨f1,f2,f3,f4,f5,f6⟩:=rK hok x n
 exact⟨by omega,f6,f4⟩
theorem pX {s:GShow}{x:GState}(hok:aI s=true):(bm s x).length≤128:=by
 unfold bm
 have h6:=sW hok x
 have hmm:=tH s x
 have hpow:=pm (m:=(mayL s x).length) (by omega)
 split
 ·simp
 ·simpa using hpow
theorem EF (xs:List (List Int))(p:List Int→Option Bool)(q:List Int→Bool)(hx:Cnt xs.length)(hp:∀ x,x∈xs→p x=some (q x)):dP xs p=some (aK xs q):=by
 unfold dP aK
 have key:=jv (body:=cj xs p ((xs.length:Nat):Int)) xs q (fun i=>(i:Int)) (rT:=.inl ()) (fun i=>.inr (i:Int)) ?_ ?_ ?_
 ·rw[show(0:Int)=((0:Nat):Int) from rfl,key]
  simp only[obnd]
  cases xs.findIdx? q <;> rfl
 ·intro i hi hq
  unfold cj
  unfold Cnt at hx
  rw[if_pos (by omega),an hi,wr (x:=(i:Int)+1) (by omega) (by omega)]
  simp only[obnd]
  rw[hp _ (List.getElem_mem hi),hq];rfl
 ·intro i hi hq
  unfold cj
  rw[if_pos (by omega),an hi]
  simp only[obnd]
  rw[hp _ (List.getElem_mem hi),hq];rfl
 ·unfold cj
  rw[if_neg (by omega)]
theorem AS (xs:List (List Int))(l:List Int)(hx:Cnt xs.length)(hl:Cnt l.length):mj xs l=some (decide (l∈xs)):=by
 unfold mj ex
 rw[EF xs _ (fun y=>decide (l=y)) hx (fun y _=>by unfold pk;rw[li l y hl];rfl)]
 simp only[obnd]
 rw[nR]
 congr 1
 rw[Bool.eq_iff_iff,List.any_eq_true,decide_eq_true_eq]
 simp
theorem AU (xs:List (List Int))(l:List Int)(hx:Cnt xs.length)(hx2:∀ x,x∈xs→Cnt x.length):lI xs l=some (decide (l∈xs)):=by
 unfold lI
 have key:ak (iK l xs ((xs.length:Nat):Int)) ((0:Nat):Int)=some (if xs.all (fun x=>!decide (x=l))=true then .inl () else .inr true):=by
  unfold Cnt at hx
  refine ib xs (fun x=>!decide (x=l)) (fun i=>(i:Int)) ?_ ?_ ?_
  ·intro i hi hq
   rw[Bool.not_eq_true',decide_eq_false_iff_not]at hq
   unfold iK
   rw[if_pos (by omega),an hi,wr (x:=(i:Int)+1) (by omega) (by omega)]
   simp only[obnd]
   rw[qW _ _ (hx2 _ (List.getElem_mem hi))]
   simp only
   rw[if_neg (by rw[decide_eq_false hq];simp)];rfl
  ·intro i hi hq
   rw[Bool.not_eq_false',decide_eq_true_eq]at hq
   unfold iK
   rw[if_pos (by omega),an hi]
   simp only[obnd]
   rw[qW _ _ (hx2 _ (List.getElem_mem hi))]
   simp only
   rw[if_pos (decide_eq_true hq)]
  ·unfold iK
   rw[if_neg (by omega)]
 rw[show(0:Int)=((0:Nat):Int) from rfl,key]
 have e:decide (l∈xs)=!xs.all (fun x=>!decide (x=l)):=by
  rw[Bool.eq_iff_iff,decide_eq_true_eq,Bool.not_eq_true',List.all_eq_false]
  simp
 rw[e]
 cases xs.all (fun x=>!decide (x=l)) <;> rfl
def bf (f:Int→Int)(v:Int)(ks t:List Int):List Int:=ks.foldl (fun t k=>t.set (f k).toNat v) t
theorem rL (f:Int→Int)(v:Int)(ks:List Int)(k:Int)(t:List Int):bf f v (ks++[k]) t=(bf f v ks t).set (f k).toNat v:=by
 unfold bf;rw[List.foldl_append];rfl
theorem cu (f:Int→Int)(v:Int):∀ (ks t:List Int),(bf f v ks t).length=t.length
 | [],t=>rfl
 | k::ks,t=>by
  show(bf f v ks (t.set (f k).toNat v)).length=_
  rw[cu f v ks,List.length_set]
theorem tJ (t:List Int)(j i v:Int)(hj:0≤j)(hj2:j<t.length)(hi:0≤i):tm (t.set j.toNat v) i=if i=j then v else tm t i:=by
 unfold tm
 rw[List.getElem?_set]
 by_cases h:i=j
 ·subst h
  rw[if_pos rfl,if_pos (by omega),if_pos rfl];rfl
 ·rw[if_neg (by omega),if_neg h]
theorem um (f:Int→Int)(v:Int):∀ (ks t:List Int) (i:Int),0≤i→(∀ k,k∈ks→0≤f k∧f k<t.length)→tm (bf f v ks t) i=if i∈ks.map f then v else tm t i
 | [],t,i,_,_=>by simp[bf]
 | k::ks,t,i,h0,h=>by
  have hk:=h k (by simp)
  show tm (bf f v ks (t.set (f k).toNat v)) i=_
  rw[um f v ks _ i h0 (fun k' hk'=>by rw[List.length_set];exact h k' (by simp[hk'])),tJ _ _ _ _ hk.1 hk.2 h0]
  by_cases h1:i∈ks.map f
  ·rw[if_pos h1,if_pos (by simp only[List.map_cons,List.mem_cons];exact .inr h1)]
  ·rw[if_neg h1]
   by_cases h2:i=f k
   ·rw[if_pos h2,if_pos (by simp[h2])]
   ·rw[if_neg h2,if_neg (by simp only[List.map_cons,List.mem_cons];rintro(h3|h3);exact h2 h3;exact h1 h3)]
theorem qR (x:GState)(h1:x.times.length≤1048576)(h2:x.values.length≤1048576):du x=some x:=by
 unfold du
 rw[iE _ h1,iE _ h2];rfl
theorem qS (x:GState)(h1:x.times.length≤1048576)(h2:x.values.length≤1048576):dK x=some x:=by
 unfold dK
 rw[ah (by omega),ah (by omega),ah (by omega),ah (by omega)]
def endX (s:GShow)(x:GState)(ties:List Int):GState:=⟨x.now,bf (fun k=>(bH s k).to) x.now ties x.times,x.values⟩
theorem vS {s:GShow}{x:GState}(hx:aB s x=true){ties:List Int}(ht:∀ k,k∈ties→k∈actL s x){i:Nat}(hi:i<ties.length) :
  getI s.ties ties[i]=some (bH s ties[i])∧0≤(bH s ties[i]).to∧(bH s ties[i]).to<x.times.length:=by
 have hR:=cD hx
 have hlen:=hR.len
 obtain⟨j,hj,e,_,_,_⟩:=tG (ht _ (List.getElem_mem hi))
 rw[e,iT hj]
 have hT:=hR.right.tie _ (List.getElem_mem hj)
 exact⟨an hj,hT.t0,by have:=hT.t1;omega⟩
theorem AW {s:GShow}{x:GState}(hx:aB s x=true)(h2:x.values.length≤1048576){ties:List Int}(hl:ties.length≤1000)(ht:∀ k,k∈ties→k∈actL s x):jY s x ties=some (endX s x ties):=by
 have hR:=cD hx
 have hlen:=hR.len
 have hn:=hR.right.nodes
 unfold jY
 rw[qR x (by omega) h2]
 simp only[obnd]
 have key:ak (kN ties ((ties.length:Nat):Int) s.nodes s.ties s.horizon x.now x.times x.values x.now x.values) (((0:Nat):Int),bf (fun k=>(bH s k).to) x.now (ties.take 0) x.times)=some (bf (fun k=>(bH s k).to) x.now ties x.times):=by
  refine aH ties.length (fun i=>((i:Int),bf (fun k=>(bH s k).to) x.now (ties.take i) x.times)) ?_ ?_
  ·intro i hi
   obtain⟨e1,e2,e3⟩:=vS hx ht hi
   unfold kN
   simp only
   rw[if_pos (by omega),an hi]
   simp only[obnd]
   rw[e1]
   simp only
   rw[bJ e2 (by rw[cu];exact e3)]
   simp only
   rw[wr (x:=(i:Int)+1) (by omega) (by omega),List.take_succ_eq_append_getElem hi,rL];rfl
  ·unfold kN
   simp only
   rw[if_neg (by omega),List.take_length]
 rw[List.take_zero]at key
 change obnd (ak _ (((0:Nat):Int),bf (fun k=>(bH s k).to) x.now [] x.times)) _=_
 rw[key];rfl
theorem xC {s:GShow}{x:GState}(hx:aB s x=true)(h2:x.values.length≤1048576){ties:List Int}(hl:ties.length≤1000)(ht:∀ k,k∈ties→k∈actL s x):kq s x ties=some (endX s x ties):=by
 have hR:=cD hx
 have hlen:=hR.len
 have hn:=hR.right.nodes
 unfold kq
 rw[qS x (by omega) h2]
 simp only[obnd]
 have key:ak (jS ties ((ties.length:Nat):Int) s.nodes s.ties s.horizon x.now x.times x.values x.now x.values) (((0:Nat):Int),bf (fun k=>(bH s k).to) x.now (ties.take 0) x.times)=some (bf (fun k=>(bH s k).to) x.now ties x.times):=by
  refine aH ties.length (fun i=>((i:Int),bf (fun k=>(bH s k).to) x.now (ties.take i) x.times)) ?_ ?_
  ·intro i hi
   obtain⟨e1,e2,e3⟩:=vS hx ht hi
   unfold jS
   simp only
   rw[if_pos (by omega),an hi]
   simp only[obnd]
   rw[e1]
   simp only
   rw[bJ e2 (by rw[cu];exact e3)]
   simp only
   rw[wr (x:=(i:Int)+1) (by omega) (by omega),List.take_succ_eq_append_getElem hi,rL];rfl
  ·unfold jS
   simp only
   rw[if_neg (by omega),List.take_length]
 rw[List.take_zero]at key
 change obnd (ak _ (((0:Nat):Int),bf (fun k=>(bH s k).to) x.now [] x.times)) _=_
 rw[key];rfl
def HG (x:GState):GState:=⟨x.now+1,x.times,x.values⟩
def HH (s:GShow)(x:GState):Bool:=decide (0≤x.now∧x.now≤s.horizon)&&aB s (HG x)
theorem yW {s:GShow}{x:GState}(hx:aB s x=true){ties:List Int}(ht:∀ k,k∈ties→k∈actL s x){i:Int}(hi:0≤i) :
  tm (endX s x ties).times i=if i∈ties.map (fun k=>(bH s k).to) then x.now else tm x.times i:=by
 unfold endX
 refine um _ _ _ _ _ hi ?_
 intro k hk
 obtain⟨j,hj,rfl⟩:=List.getElem_of_mem hk
 exact(vS hx ht hj).2
theorem Df {s:GShow}{x:GState}(hok:aI s=true){ties:List Int}(ht:∀ k,k∈ties→k∈actL s x){i:Int}(h:i∈ties.map (fun k=>(bH s k).to)):i≠0∧∀ b,s.nodes[i.toNat]?=some b→b.watch=0:=by
 rw[List.mem_map]at h
 obtain⟨k,hk,rfl⟩:=h
 obtain⟨j,hj,rfl,hf,_,_⟩:=tG (ht _ hk)
 rw[iT hj]
 have:=oV hok hj hf
 exact⟨this.t0,this.watch⟩
theorem vT {s:GShow}{x:GState}(hx:aB s x=true)(hh:x.now≤s.horizon){ties:List Int}(ht:∀ k,k∈ties→k∈actL s x):HH s (endX s x ties)=true:=by
 have hnow:=Mf hx
 have hx0:=hx
 have hl:(endX s x ties).times.length=x.times.length:=cu _ _ _ _
 unfold aB at hx
 simp only[Bool.and_eq_true,decide_eq_true_eq]at hx
 obtain⟨⟨⟨⟨⟨h1,h2⟩,h3⟩,h4⟩,h5⟩,h6⟩:=hx
 unfold HH aB
 simp only[Bool.and_eq_true,decide_eq_true_eq]
 refine⟨⟨h2.1,hh⟩,⟨⟨⟨⟨h1,?_⟩,?_⟩,h4⟩,?_⟩,?_⟩
 ·show 0≤x.now+1∧x.now+1≤s.horizon+1
  omega
 ·exact hl.trans h3
 ·intro i hi
  have hi':i<x.times.length:=by rw[← hl];exact hi
  have h5i:=h5 i hi'
  unfold kj at h5i ⊢
  have e:=yW hx0 ht (i:=(i:Int)) (by omega)
  show(if i=0 then decide (tm (endX s x ties).times 0=0) else decide (-1≤tm (endX s x ties).times i∧tm (endX s x ties).times i≤x.now+1 - 1))=true
  by_cases hi0:i=0
  ·rw[if_pos hi0]at h5i ⊢
   subst hi0
   rw[show((0:Nat):Int)=0 from rfl]at e
   rw[e,if_neg (fun h=>(Df h1 ht h).1 rfl)]
   exact h5i
  ·rw[if_neg hi0]at h5i ⊢
   rw[decide_eq_true_eq]at h5i ⊢
   rw[e]
   split
   ·omega
   ·omega
 ·intro i hi
  have h6i:=h6 i hi
  unfold jn at h6i ⊢
  show(decide (tm x.values i≠0) == (decide (0≤aK s.nodes (fun n=>decide (n.watch=(i:Int)+1)))&&decide (tm (endX s x ties).times (aK s.nodes (fun n=>decide (n.watch=(i:Int)+1)))≠-1)))=true
  by_cases hw:0≤aK s.nodes (fun n=>decide (n.watch=(i:Int)+1))
  ·obtain⟨j,hj,e,hq,_⟩:=jw hw
   rw[yW hx0 ht hw,if_neg ?_]
   ·exact h6i
   ·intro hm
    have:=(Df h1 ht hm).2 s.nodes[j] (by rw[e,Int.toNat_natCast,List.getElem?_eq_getElem hj])
    rw[decide_eq_true_eq]at hq
    omega
  ·rw[decide_eq_false hw]at h6i ⊢
   simpa using h6i
end Go.Proofs.Qe
set_option maxRecDepth 100000
namespace Go.Proofs.Qe
open Go
def litV (v:List Int)(x:Int):Int:=if x<0 then 0 - tm v (pr x - 1) else tm v (pr x - 1)
def dn (l v:List Int):Int:=l.foldl (fun o x=>if litV v x<o then litV v x else o) 1
theorem IP {x:Int}(h1:-3≤x)(h2:x≤3):pr x≤3:=by
 unfold pr
 split
 ·rw[wr (by omega) (by omega)];omega
 ·omega
theorem aV {v:List Int}(h:cH v=true):v.length=3∧∀ x,x∈v→-1≤x∧x≤1:=by
 unfold cH at h
 simp only[Bool.and_eq_true,decide_eq_true_eq,List.all_eq_true]at h
 exact h
theorem KW {l v:List Int}(hl:bF l=true)(hv:cH v=true){x:Int}(hx:x∈l):getI v (IntKind.wrap .i64 (pr x - 1))=some (tm v (pr x - 1))∧IntKind.wrap .i64 (0 - tm v (pr x - 1))=0 - tm v (pr x - 1):=by
 obtain⟨h1,h2,h3⟩:=xM hl hx
 have h4:=IP h2 h3
 obtain⟨v1,v2⟩:=aV hv
 have hb:=v2 _ (ND (ts:=v) (i:=pr x - 1) (by omega) (by omega))
 rw[wr (x:=pr x - 1) (by omega) (by omega)]
 exact⟨bJ (by omega) (by omega),wr (by omega) (by omega)⟩
theorem un {l v:List Int}(hl:bF l=true)(hv:cH v=true)(hc:Cnt l.length):fV l v=some (dn l v):=by
 have v1:=(aV hv).1
 unfold fV
 rw[nL l hc,hl]
 simp only[obnd,if_true]
 rw[wn v (by unfold Cnt;omega),hv]
 simp only[if_true]
 have key:ak (fB v l ((l.length:Nat):Int)) ((l.take 0).foldl (fun o x=>if litV v x<o then litV v x else o) 1,((0:Nat):Int))=some (dn l v):=by
  refine aH l.length (fun i=>((l.take i).foldl (fun o x=>if litV v x<o then litV v x else o) 1,(i:Int))) ?_ ?_
  ·intro i hi
   unfold Cnt at hc
   obtain⟨e1,e2⟩:=KW hl hv (List.getElem_mem hi)
   unfold fB
   simp only
   rw[if_pos (by omega),an hi,wr (x:=(i:Int)+1) (by omega) (by omega)]
   simp only[obnd]
   have hh:nz l[i] v=some (litV v l[i]):=by
    unfold nz litV
    rw[se]
    simp only[obnd]
    rw[e1]
    simp only
    rw[e2]
    split <;> rfl
   rw[hh]
   simp only
   rw[List.take_succ_eq_append_getElem hi,List.foldl_append];rfl
  ·unfold fB
   simp only
   rw[if_neg (by omega),List.take_length];rfl
 rw[List.take_zero]at key
 change obnd (ak _ (1,((0:Nat):Int))) _=_
 rw[show(1:Int)=([]:List Int).foldl (fun o x=>if litV v x<o then litV v x else o) 1 from rfl,key];rfl
theorem AA {l v:List Int}(hl:bF l=true)(hv:cH v=true)(hc:Cnt l.length):cq l v=some (dn l v):=by
 unfold cq
 have key:ak (im v l ((l.length:Nat):Int)) ((l.take 0).foldl (fun o x=>if litV v x<o then litV v x else o) 1,((0:Nat):Int))=some (dn l v):=by
  refine aH l.length (fun i=>((l.take i).foldl (fun o x=>if litV v x<o then litV v x else o) 1,(i:Int))) ?_ ?_
  ·intro i hi
   unfold Cnt at hc
   obtain⟨e1,e2⟩:=KW hl hv (List.getElem_mem hi)
   unfold im
   simp only
   rw[if_pos (by omega),an hi,wr (x:=(i:Int)+1) (by omega) (by omega)]
   simp only[obnd]
   rw[sQ]
   simp only
   rw[e1]
   simp only
   rw[e2,List.take_succ_eq_append_getElem hi,List.foldl_append]
   unfold litV
   simp only[List.foldl_cons,List.foldl_nil]
   by_cases hx:l[i]<0
   ·simp only[if_pos hx];rfl
   ·simp only[if_neg hx];rfl
  ·unfold im
   simp only
   rw[if_neg (by omega),List.take_length];rfl
 rw[List.take_zero]at key
 change obnd (ak _ (1,((0:Nat):Int))) _=_
 rw[show(1:Int)=([]:List Int).foldl (fun o x=>if litV v x<o then litV v x else o) 1 from rfl,key];rfl
def sd (s:GShow)(k:Int):Int:=aK s.ties (fun t=>t.free&&decide (t.to=k))
def jt (s:GShow)(i:Nat):List Int:=((s.nodes[i]?).map (fun n=>n.label)).getD []
def chAt (s:GShow)(i:Nat):Bool:=decide (0<i)&&decide (sd s (i:Int)<0)
def opAt (s:GShow)(x:GState)(i:Nat):Bool:=decide (tm x.times (i:Int)=-1)&&decide (dn (jt s i) x.values=1)
def enAt (s:GShow)(x:GState)(i:Nat):Bool:=chAt s i&&opAt s x i
def enL (s:GShow)(x:GState):List Int:=bd (enAt s x) s.nodes.length
theorem wq (p:Nat→Bool)(q:Int→Bool):∀ n,(bd p n).filter q=bd (fun i=>p i&&q (i:Int)) n
 | 0=>rfl
 | n+1=>by
  have ih:=wq p q n
  cases hp:p n
  ·rw[cf hp,cf (by simp[hp]),ih]
  ·rw[fL hp,List.filter_append,ih]
   cases hq:q (n:Int)
   ·rw[cf (by simp[hp,hq])];simp[hq]
   ·rw[fL (by simp[hp,hq])];simp[hq]
theorem xD {p q:Nat→Bool}:∀ {n:Nat},(∀ i,i<n→p i=q i)→bd p n=bd q n
 | 0,_=>rfl
 | n+1,h=>by
  have ih:=xD (n:=n) (fun i hi=>h i (by omega))
  have hn:=h n (by omega)
  cases hp:p n
  ·rw[cf hp,cf (by rw[← hn];exact hp),ih]
  ·rw[fL hp,fL (by rw[← hn];exact hp),ih]
theorem Ml (s:GShow)(k:Int)(hs:aR s):lN s k=some (sd s k):=by
 unfold lN sd
 rw[wz s.ties _ (fun t=>t.free&&decide (t.to=k)) hs.ties]
 ·rfl
 ·intro t _
  unfold lw
  cases t.free <;> rfl
theorem NL (s:GShow)(hs:aR s)(hR:rJ s):mA s=some (bd (chAt s) s.nodes.length):=by
 have h1:=hR.node1
 have h7:=hR.nodes
 unfold mA
 have key:ak (jZ s.nodes s.ties s.horizon) (((0:Nat):Int)+1,bd (chAt s) (0+1))=some (bd (chAt s) s.nodes.length):=by
  refine aH (s.nodes.length - 1) (fun i=>((i:Int)+1,bd (chAt s) (i+1))) ?_ ?_
  ·intro i hi
   have hl:=fM (chAt s) (i+1)
   unfold jZ
   simp only
   rw[if_pos (by omega),show(GShow.mk s.nodes s.ties s.horizon)=s from rfl,Ml s _ hs,wr (x:=(i:Int)+1+1) (by omega) (by omega),ah (by omega),ah (by omega)]
   simp only[obnd]
   have e:chAt s (i+1)=decide (sd s ((i:Int)+1)<0):=by
    unfold chAt
    rw[decide_eq_true (show 0<i+1 by omega),Bool.true_and];rfl
   by_cases hf:sd s ((i:Int)+1)<0
   ·rw[if_pos hf,fL (n:=i+1) (by rw[e];exact decide_eq_true hf)];rfl
   ·rw[if_neg hf,cf (n:=i+1) (by rw[e];exact decide_eq_false hf)];rfl
  ·unfold jZ
   simp only
   rw[if_neg (by omega),show s.nodes.length - 1+1=s.nodes.length by omega]
 have e0:bd (chAt s) (0+1)=[]:=by rw[cf (by rfl)];rfl
 rw[e0]at key
 change obnd (ak _ (((0:Nat):Int)+1,[])) _=_
 rw[key];rfl
theorem tK {s:GShow}(hok:aI s=true){i:Nat}(hi:i<s.nodes.length):bF s.nodes[i].label=true∧0≤s.nodes[i].watch∧s.nodes[i].watch≤3:=by
 unfold aI at hok
 simp only[Bool.and_eq_true]at hok
 have h:=AK hok.1.1.1.1 _ (List.getElem_mem hi)
 have h2:=h
 unfold lV at h2
 simp only[Bool.and_eq_true,decide_eq_true_eq]at h2
 exact⟨xN h,h2.2⟩
theorem rz {s:GShow}{i:Nat}(hi:i<s.nodes.length):jt s i=s.nodes[i].label:=by
 unfold jt
 rw[List.getElem?_eq_getElem hi];rfl
structure MomR (s:GShow) (x:GState):Prop where
 ok:aI s=true
 right:rJ s
 now:0≤x.now∧x.now≤s.horizon
 len:x.times.length=s.nodes.length
 val:cH x.values=true
 nxt:aB s (HG x)=true
theorem uo {s:GShow}{x:GState}(h:HH s x=true):MomR s x:=by
 unfold HH at h
 simp only[Bool.and_eq_true,decide_eq_true_eq]at h
 obtain⟨h1,h2⟩:=h
 have h3:=h2
 unfold aB at h2
 simp only[Bool.and_eq_true,decide_eq_true_eq]at h2
 obtain⟨⟨⟨⟨⟨a1,a2⟩,a3⟩,a4⟩,a5⟩,a6⟩:=h2
 exact⟨a1,bZ a1,h1,a3,a4,h3⟩
theorem Mm {s:GShow}{x:GState}(hs:aR s)(h:MomR s x):lO s x=some (enL s x):=by
 have h7:=h.right.nodes
 have hln:=h.len
 have hpl:=fM (chAt s) s.nodes.length
 unfold lO
 rw[NL s hs h.right]
 simp only[obnd]
 rw[vd _ _ (fun k=>!(decide (tm x.times k=-1)&&decide (dn (jt s k.toNat) x.values=1))) (by unfold Cnt;omega)]
 ·simp only[Bool.not_not]
  rw[wq]
  unfold enL
  rw[xD (q:=enAt s x)]
  intro i hi
  unfold enAt opAt
  rw[Int.toNat_natCast]
 ·intro k hk
  obtain⟨i,hi,_,rfl⟩:=kY.1 hk
  unfold lx
  rw[dU (by omega)]
  simp only[obnd]
  by_cases ht:tm x.times (i:Int)=-1
  ·rw[if_pos ht]
   unfold cV
   rw[an hi]
   simp only[obnd]
   rw[un (tK h.ok hi).1 h.val (hs.node _ (List.getElem_mem hi)).2,decide_eq_true ht,Int.toNat_natCast,rz hi]
   simp
  ·rw[if_neg ht,decide_eq_false ht];rfl
theorem wu {s:GShow}{x:GState}(hs:aR s)(h:MomR s x):ga s x=some (enL s x):=by
 have h7:=h.right.nodes
 have hln:=h.len
 unfold ga
 have key:ak (fF s.nodes ((s.nodes.length:Nat):Int) s.ties s.horizon x.now x.times x.values) (((0:Nat):Int),bd (enAt s x) 0)=some (enL s x):=by
  refine aH s.nodes.length (fun i=>((i:Int),bd (enAt s x) i)) ?_ ?_
  ·intro i hi
   have hpl:=fM (enAt s x) i
   unfold fF
   simp only
   rw[if_pos (by omega),an hi,show(GShow.mk s.nodes s.ties s.horizon)=s from rfl,Du s _ hs.ties,dU (by omega),wr (x:=(i:Int)+1) (by omega) (by omega),ah (by omega),ah (by omega)]
   simp only[obnd]
   rw[AA (tK h.ok hi).1 h.val (hs.node _ (List.getElem_mem hi)).2]
   simp only
   have e:enAt s x i=(decide (0<i)&&decide (sd s (i:Int)<0)&&(decide (tm x.times (i:Int)=-1)&&decide (dn s.nodes[i].label x.values=1))):=by
    unfold enAt chAt opAt
    rw[rz hi]
   change (if (0:Int)<(i:Int) then (if sd s (i:Int)<0 then _ else _) else _)=_
   by_cases h0:0<i
   ·rw[if_pos (by omega)]
    by_cases hf:sd s (i:Int)<0
    ·rw[if_pos hf]
     by_cases ht:tm x.times (i:Int)=-1
     ·rw[if_pos ht]
      by_cases hs1:dn s.nodes[i].label x.values=1
      ·rw[if_pos hs1,fL (by rw[e,decide_eq_true h0,decide_eq_true hf,decide_eq_true ht,decide_eq_true hs1];rfl)];rfl
      ·rw[if_neg hs1,cf (by rw[e,decide_eq_false hs1];simp)];rfl
     ·rw[if_neg ht,cf (by rw[e,decide_eq_false ht];simp)];rfl
    ·rw[if_neg hf,cf (by rw[e,decide_eq_false hf];simp)];rfl
   ·rw[if_neg (by omega),cf (by rw[e,decide_eq_false h0];rfl)];rfl
  ·unfold fF
   simp only
   rw[if_neg (by omega)];rfl
 rw[oU]at key
 change obnd (ak _ (((0:Nat):Int),[])) _=_
 rw[key];rfl
def lz (s:GShow)(x:GState)(j:Nat):List Int:=sel (cz ((2^(enL s x).length - 1 - j:Nat):Int)) (enL s x) (enL s x).length
def decL (s:GShow)(x:GState):List (List Int):=(List.range (2^(enL s x).length)).map (lz s x)
theorem vf {s:GShow}(hR:rJ s)(x:GState):(enL s x).length≤7:=by
 have:=fM (enAt s x) s.nodes.length
 have:=hR.nodes
 unfold enL;omega
theorem tL {s:GShow}{x:GState}(hs:aR s)(h:MomR s x):eA s x=some (decL s x):=by
 have h7:=vf h.right x
 have hpow:=pm h7
 have hpos:0<2^(enL s x).length:=Nat.pow_pos (by omega)
 unfold eA
 rw[Mm hs h]
 simp only[obnd]
 rw[ah (by omega),lR h7]
 unfold decL
 have hd:∀ j,lz s x j=sel (cz ((2^(enL s x).length - 1 - j:Nat):Int)) (enL s x) (enL s x).length:=fun _=>rfl
 generalize 2^(enL s x).length=q at *
 rw[wr (by omega) (by omega)]
 have key:ak (gB (enL s x)) ((q:Int) - 1 - ((0:Nat):Int),(List.range 0).map (lz s x))=some ((List.range q).map (lz s x)):=by
  refine aH q (fun i=>((q:Int) - 1 - (i:Int),(List.range i).map (lz s x))) ?_ ?_
  ·intro i hi
   unfold gB
   simp only
   rw[if_pos (by omega),Dd _ _ (by omega),wr (by omega) (by omega)]
   simp only[obnd]
   rw[ah (by simp;omega),ah (by simp;omega),cI,hd i,show(((q - 1 - i:Nat)):Int)=(q:Int) - 1 - (i:Int) by omega,show(q:Int) - 1 - (i:Int) - 1=(q:Int) - 1 - ((i+1:Nat):Int) by omega]
  ·unfold gB
   simp only
   rw[if_neg (by omega)]
 simp only[List.range_zero,List.map_nil,Int.natCast_zero,Int.sub_zero]at key
 rw[key]
theorem Kj {s:GShow}{x:GState}(hs:aR s)(h:MomR s x):kF s x=some true:=by
 have hh:=h.right.hor
 have hn:=h.now
 have h7:=h.right.nodes
 have hln:=h.len
 have hv:=(aV h.val).1
 unfold kF
 rw[eE,decide_eq_true (by omega)]
 simp only[obnd,if_true]
 rw[mK s hs,h.ok]
 simp only[if_true]
 rw[if_neg (by omega),qS x (by omega) (by omega)]
 simp only
 rw[wr (by omega) (by omega)]
 change obnd (eZ s (HG x)) _=_
 rw[tF s (HG x) hs (by show x.times.length≤_;omega) (by show x.values.length≤_;omega),h.nxt];rfl
theorem vg {s:GShow}{x:GState}(hs:aR s)(h:MomR s x):fc s x=some (decL s x):=by
 have h7:=vf h.right x
 have hpow:=pm h7
 have hpos:0<2^(enL s x).length:=Nat.pow_pos (by omega)
 unfold fc
 rw[Kj hs h]
 simp only[obnd,if_true]
 rw[wu hs h]
 simp only
 rw[wru (by omega),ah (by omega),Int.toNat_natCast,lR h7]
 unfold decL
 have hd:∀ j,lz s x j=sel (cz ((2^(enL s x).length - 1 - j:Nat):Int)) (enL s x) (enL s x).length:=fun _=>rfl
 generalize 2^(enL s x).length=q at *
 rw[wr (by omega) (by omega)]
 have key:ak (fb (enL s x)) ((q:Int) - 1 - ((0:Nat):Int),(List.range 0).map (lz s x))=some ((List.range q).map (lz s x)):=by
  refine aH q (fun i=>((q:Int) - 1 - (i:Int),(List.range i).map (lz s x))) ?_ ?_
  ·intro i hi
   unfold fb
   simp only
   rw[if_pos (by omega),qP _ _ (by omega),wr (by omega) (by omega)]
   simp only[obnd]
   rw[ah (by simp;omega),ah (by simp;omega),cI,hd i,show(((q - 1 - i:Nat)):Int)=(q:Int) - 1 - (i:Int) by omega,show(q:Int) - 1 - (i:Int) - 1=(q:Int) - 1 - ((i+1:Nat):Int) by omega]
  ·unfold fb
   simp only
   rw[if_neg (by omega)]
 simp only[List.range_zero,List.map_nil,Int.natCast_zero,Int.sub_zero]at key
 rw[key]
theorem mZ {s:GShow}{x:GState}{k:Int}(h:k∈enL s x):∃ i,i<s.nodes.length∧k=(i:Int)∧0<i∧tm x.times (i:Int)=-1:=by
 obtain⟨i,hi,hp,rfl⟩:=kY.1 h
 unfold enAt chAt opAt at hp
 simp only[Bool.and_eq_true,decide_eq_true_eq]at hp
 exact⟨i,hi,rfl,hp.1.1,hp.2.1⟩
theorem dc {s:GShow}{x:GState}(hR:rJ s){nodes:List Int}(h:nodes∈decL s x):Asc nodes∧nodes.length≤7∧∀ k,k∈nodes→k∈enL s x:=by
 unfold decL at h
 rw[List.mem_map]at h
 obtain⟨j,_,rfl⟩:=h
 have h7:=vf hR x
 have:=ve (cz ((2^(enL s x).length - 1 - j:Nat):Int)) (enL s x) (enL s x).length
 exact⟨EE (qQ _ _) _ (Nat.le_refl _),by unfold lz;omega,fun k hk=>IK hk⟩
theorem rA {s:GShow}(hR:rJ s)(x:GState):(decL s x).length≤128:=by
 unfold decL
 simpa using pm (vf hR x)
def vh (s:GShow)(k:Int):Int:=((s.nodes[k.toNat]?).map (fun n=>n.watch)).getD 0
def cJ (s:GShow)(p:Int):Int:=aK s.nodes (fun n=>decide (n.watch=p))
def ay (s:GShow)(nodes:List Int):List Int:=[1,2,3].filter (fun p=>decide (cJ s p∈nodes))
def decX (x:GState)(nodes:List Int):GState:=⟨x.now,bf (fun k=>k) x.now nodes x.times,x.values⟩
theorem Dg {s:GShow}(hok:aI s=true){i j:Nat}(hi:i<s.nodes.length)(hj:j<s.nodes.length)(h:s.nodes[i].watch=s.nodes[j].watch)(h0:s.nodes[i].watch≠0):i=j:=by
 have key:∀ {i j:Nat} (hi:i<s.nodes.length) (hj:j<s.nodes.length),s.nodes[i].watch=s.nodes[j].watch→s.nodes[j].watch≠0→¬ i<j:=by
  intro i j hi hj he hn hlt
  unfold aI fN at hok
  simp only[Bool.and_eq_true,decide_eq_true_eq]at hok
  have hp:=hok.1.1.1.1.2 j hj
  rw[tS hj,Bool.and_eq_true]at hp
  have hE:=hp.2
  unfold sX at hE
  rw[List.all_eq_true]at hE
  have:=hE s.nodes[i] (List.mem_take_iff_getElem.2 ⟨i,by omega,rfl⟩)
  simp only[Bool.and_eq_true,Bool.or_eq_true,Bool.not_eq_true',decide_eq_false_iff_not,decide_eq_true_eq]at this
  rcases this.2 with h1|h1
  ·exact hn h1
  ·exact h1 he
 rcases Nat.lt_trichotomy i j with hlt|he|hlt
 ·exact absurd hlt (key hi hj h (by rw[← h];exact h0))
 ·exact he
 ·exact absurd hlt (key hj hi h.symm h0)
theorem Mn {s:GShow}(hok:aI s=true){i:Nat}(hi:i<s.nodes.length)(h0:s.nodes[i].watch≠0):cJ s s.nodes[i].watch=(i:Int):=by
 unfold cJ
 have h1:0≤aK s.nodes (fun n=>decide (n.watch=s.nodes[i].watch)):=by
  have:=nR (xs:=s.nodes) (q:=fun n=>decide (n.watch=s.nodes[i].watch))
  have h2:s.nodes.any (fun n=>decide (n.watch=s.nodes[i].watch))=true:=List.any_eq_true.2 ⟨_,List.getElem_mem hi,by simp⟩
  rw[h2]at this
  exact of_decide_eq_true this
 obtain⟨j,hj,e,hq,_⟩:=jw h1
 rw[e,Dg hok hj hi (of_decide_eq_true hq) (by rw[of_decide_eq_true hq];exact h0)]
theorem nZ {s:GShow}{i:Nat}(hi:i<s.nodes.length):vh s (i:Int)=s.nodes[i].watch:=by
 unfold vh
 rw[Int.toNat_natCast,List.getElem?_eq_getElem hi];rfl
def wl (s:GShow)(nodes:List Int):List Int:=(nodes.map (vh s)).filter (fun p=>!decide (p=0))
theorem uq (s:GShow)(nodes:List Int):Asc (ay s nodes):=by
 have:Asc [1,2,3]:=by unfold Asc;decide
 exact this.filter _
theorem Pk {s:GShow}{x:GState}(hok:aI s=true){nodes:List Int}(ha:Asc nodes)(hn:∀ k,k∈nodes→k∈enL s x):(wl s nodes).Nodup∧∀ p,p∈wl s nodes↔p∈ay s nodes:=by
 constructor
 ·unfold wl
  rw[List.filter_map]
  unfold List.Nodup
  rw[List.pairwise_map]
  refine List.Pairwise.imp_of_mem ?_ (ha.filter _)
  intro a b h1 h2 hab he
  rw[List.mem_filter]at h1 h2
  obtain⟨i,hi,rfl,_,_⟩:=mZ (hn _ h1.1)
  obtain⟨j,hj,rfl,_,_⟩:=mZ (hn _ h2.1)
  have h3:=h1.2
  simp only[Function.comp,Bool.not_eq_true',decide_eq_false_iff_not]at h3
  rw[nZ hi,nZ hj]at he
  rw[nZ hi]at h3
  have:=Dg hok hi hj he h3
  omega
 ·intro p
  unfold wl ay
  rw[List.mem_filter,List.mem_filter,List.mem_map]
  simp only[Bool.not_eq_true',decide_eq_false_iff_not,decide_eq_true_eq]
  constructor
  ·rintro⟨⟨k,hk,rfl⟩,h0⟩
   obtain⟨i,hi,rfl,_,_⟩:=mZ (hn _ hk)
   rw[nZ hi]at h0 ⊢
   have hw:=(tK hok hi).2
   refine⟨?_,?_⟩
   ·simp only[List.mem_cons,List.not_mem_nil,or_false];omega
   ·rw[Mn hok hi h0];exact hk
  ·rintro⟨h3,hw⟩
   obtain⟨i,hi,e,_,_⟩:=mZ (hn _ hw)
   have h0:0≤cJ s p:=by omega
   obtain⟨j,hj,e2,hq,_⟩:=jw h0
   have hwp:=of_decide_eq_true hq
   unfold cJ at hw
   rw[e2]at hw
   refine⟨⟨(j:Int),hw,by rw[nZ hj];exact hwp⟩,?_⟩
   simp only[List.mem_cons,List.not_mem_nil,or_false]at h3
   omega
theorem nG (s:GShow)(nodes:List Int):(ay s nodes).length≤3:=by
 have:=List.length_filter_le (fun p=>decide (cJ s p∈nodes)) [1,2,3]
 simpa [ay] using this
theorem bC {s:GShow}{nodes:List Int}{p:Int}(h:p∈ay s nodes):1≤p∧p≤3∧cJ s p∈nodes:=by
 unfold ay at h
 rw[List.mem_filter]at h
 simp only[List.mem_cons,List.not_mem_nil,or_false,decide_eq_true_eq]at h
 exact⟨by omega,by omega,h.2⟩
theorem vU {s:GShow}{x:GState}(h:MomR s x){nodes:List Int}(ha:Asc nodes)(hl7:nodes.length≤7)(hn:∀ k,k∈nodes→k∈enL s x):hU s x nodes=some (decX x nodes,ay s nodes):=by
 have h7:=h.right.nodes
 have hln:=h.len
 have hv:=(aV h.val).1
 unfold hU
 rw[qR x (by omega) (by omega)]
 simp only[obnd]
 have key:ak (ji nodes ((nodes.length:Nat):Int) s.nodes s.ties s.horizon x.now x.times x.values x.now x.values) (((0:Nat):Int),wl s (nodes.take 0),bf (fun k=>k) x.now (nodes.take 0) x.times)=some (wl s nodes,bf (fun k=>k) x.now nodes x.times):=by
  refine aH nodes.length (fun i=>((i:Int),wl s (nodes.take i),bf (fun k=>k) x.now (nodes.take i) x.times)) ?_ ?_
  ·intro i hi
   obtain⟨j,hj,e,_,_⟩:=mZ (hn _ (List.getElem_mem hi))
   have hwl:(wl s (nodes.take i)).length≤7:=by
    have:=List.length_filter_le (fun p=>!decide (p=0)) ((nodes.take i).map (vh s))
    rw[List.length_map,List.length_take]at this
    unfold wl;omega
   have hw1:wl s (nodes.take (i+1))=wl s (nodes.take i)++(if s.nodes[j].watch=0 then [] else [s.nodes[j].watch]):=by
    unfold wl
    rw[List.take_succ_eq_append_getElem hi,List.map_append,List.filter_append,e]
    simp only[List.map_cons,List.map_nil]
    rw[nZ hj]
    by_cases h0:s.nodes[j].watch=0 <;> simp[h0]
   unfold ji
   simp only
   rw[if_pos (by omega),an hi,e]
   simp only[obnd]
   rw[bJ (ts:=bf (fun k=>k) x.now (nodes.take i) x.times) (by omega) (by rw[cu];omega),an hj,wr (x:=(i:Int)+1) (by omega) (by omega)]
   simp only
   rw[ah (by omega),ah (by omega),hw1,List.take_succ_eq_append_getElem hi,rL,e]
   by_cases h0:s.nodes[j].watch=0
   ·rw[if_pos h0,if_pos h0,List.append_nil];rfl
   ·rw[if_neg h0,if_neg h0];rfl
  ·unfold ji
   simp only
   rw[if_neg (by omega),List.take_length]
 rw[List.take_zero]at key
 change obnd (ak _ (((0:Nat):Int),wl s [],bf (fun k=>k) x.now [] x.times)) _=_
 rw[key]
 simp only[obnd]
 have hwl:(wl s nodes).length≤7:=by
  have:=List.length_filter_le (fun p=>!decide (p=0)) (nodes.map (vh s))
  rw[List.length_map]at this
  unfold wl;omega
 obtain⟨r,e,hp,hs⟩:=KT (wl s nodes) (by omega)
 obtain⟨w1,w2⟩:=Pk h.ok ha hn
 have er:r=ay s nodes:=EB (FJ hs (hp.nodup_iff.2 w1)) (uq s nodes) (fun y=>by rw[hp.mem_iff,w2])
 rw[e]
 simp only
 rw[ah hp.length_eq,er];rfl
theorem tM {s:GShow}{x:GState}(hs:aR s)(h:MomR s x){nodes:List Int}(hl7:nodes.length≤7)(hn:∀ k,k∈nodes→k∈enL s x):ey s x nodes=some (decX x nodes,ay s nodes):=by
 have h7:=h.right.nodes
 have hln:=h.len
 have hv:=(aV h.val).1
 unfold ey
 rw[qS x (by omega) (by omega)]
 simp only[obnd]
 have key:ak (gu nodes ((nodes.length:Nat):Int) s.nodes s.ties s.horizon x.now x.times x.values x.now x.values) (((0:Nat):Int),bf (fun k=>k) x.now (nodes.take 0) x.times)=some (bf (fun k=>k) x.now nodes x.times):=by
  refine aH nodes.length (fun i=>((i:Int),bf (fun k=>k) x.now (nodes.take i) x.times)) ?_ ?_
  ·intro i hi
   obtain⟨j,hj,e,_,_⟩:=mZ (hn _ (List.getElem_mem hi))
   unfold gu
   simp only
   rw[if_pos (by omega),an hi,e]
   simp only[obnd]
   rw[bJ (ts:=bf (fun k=>k) x.now (nodes.take i) x.times) (by omega) (by rw[cu];omega),wr (x:=(i:Int)+1) (by omega) (by omega),List.take_succ_eq_append_getElem hi,rL,e];rfl
  ·unfold gu
   simp only
   rw[if_neg (by omega),List.take_length]
 rw[List.take_zero]at key
 change obnd (ak _ (((0:Nat):Int),bf (fun k=>k) x.now [] x.times)) _=_
 rw[key]
 simp only[obnd]
 have key2:ak (gv nodes s.nodes s.ties s.horizon x.now (bf (fun k=>k) x.now nodes x.times) x.values) (((0:Nat):Int)+1,([1,2,3].take 0).filter (fun p=>decide (cJ s p∈nodes)))=some (ay s nodes):=by
  refine aH 3 (fun i=>((i:Int)+1,([1,2,3].take i).filter (fun p=>decide (cJ s p∈nodes)))) ?_ ?_
  ·intro i hi
   have hl:=List.length_filter_le (fun p=>decide (cJ s p∈nodes)) ([1,2,3].take i)
   rw[List.length_take]at hl
   have e3:([1,2,3]:List Int)[i]'(by simpa using hi)=(i:Int)+1:=by
    have:i=0∨i=1∨i=2:=by omega
    rcases this with rfl|rfl|rfl <;> rfl
   unfold gv
   simp only
   rw[if_pos (by omega),show(GShow.mk s.nodes s.ties s.horizon)=s from rfl,kw s _ hs.nodes]
   simp only[obnd]
   rw[nM _ _ (by unfold Cnt;omega),wr (x:=(i:Int)+1+1) (by omega) (by omega),ah (by omega),ah (by omega),oW _ (by simpa using hi),e3]
   simp only
   change (if decide (cJ s ((i:Int)+1)∈nodes)=true then _ else _)=_
   cases decide (cJ s ((i:Int)+1)∈nodes)
   ·rw[if_neg (by simp),if_neg (by simp),List.append_nil];rfl
   ·rw[if_pos rfl,if_pos rfl];rfl
  ·unfold gv
   simp only
   rw[if_neg (by omega)];rfl
 simp only[List.take_zero,List.filter_nil,Int.natCast_zero,Int.zero_add]at key2
 rw[key2];rfl
def setV (ps vs v:List Int)(n:Nat):List Int:=(List.range n).foldl (fun v i=>v.set (ps.getD i 0 - 1).toNat (vs.getD i 0)) v
theorem pY (ps vs v:List Int)(n:Nat):setV ps vs v (n+1)=(setV ps vs v n).set (ps.getD n 0 - 1).toNat (vs.getD n 0):=by
 unfold setV
 rw[List.range_succ,List.foldl_append];rfl
theorem pq (ps vs v:List Int):∀ n,(setV ps vs v n).length=v.length
 | 0=>rfl
 | n+1=>by rw[pY,List.length_set,pq ps vs v n]
def obsX (x:GState)(ps vs:List Int):GState:=⟨x.now+1,x.times,setV ps vs x.values ps.length⟩
theorem mI (x:GState)(ps vs:List Int)(hn:0≤x.now∧x.now≤1000)(h1:x.times.length≤1048576)(h2:x.values.length=3)(hp:∀ p,p∈ps→1≤p∧p≤3)(hl:vs.length=ps.length)(hl2:ps.length≤1000) :
  fH x ps vs=some (obsX x ps vs)∧ez x ps vs=some (obsX x ps vs):=by
 have pb:∀ i,i<ps.length→1≤ps.getD i 0∧ps.getD i 0≤3:=by
  intro i hi
  rw[List.getD_eq_getElem?_getD,List.getElem?_eq_getElem hi]
  exact hp _ (List.getElem_mem hi)
 constructor
 ·unfold fH
  rw[qR x h1 (by omega)]
  simp only[obnd]
  have key:ak (iv vs ps ((ps.length:Nat):Int) x.now x.times) (((0:Nat):Int),setV ps vs x.values 0)=some (setV ps vs x.values ps.length):=by
   refine aH ps.length (fun i=>((i:Int),setV ps vs x.values i)) ?_ ?_
   ·intro i hi
    have hb:=pb i hi
    unfold iv
    simp only
    rw[if_pos (by omega),bB hi,bB (by omega),wr (x:=(i:Int)+1) (by omega) (by omega)]
    simp only[obnd]
    rw[wr (x:=ps.getD i 0 - 1) (by omega) (by omega),bJ (ts:=setV ps vs x.values i) (by omega) (by rw[pq];omega)]
    simp only
    rw[pY];rfl
   ·unfold iv
    simp only
    rw[if_neg (by omega)]
  change obnd (ak _ (((0:Nat):Int),setV ps vs x.values 0)) _=_
  rw[key]
  simp only[obnd]
  rw[wr (by omega) (by omega)];rfl
 ·unfold ez
  rw[qS x h1 (by omega)]
  simp only[obnd]
  have key:ak (gw vs ps ((ps.length:Nat):Int) x.now x.times) (((0:Nat):Int),setV ps vs x.values 0)=some (setV ps vs x.values ps.length):=by
   refine aH ps.length (fun i=>((i:Int),setV ps vs x.values i)) ?_ ?_
   ·intro i hi
    have hb:=pb i hi
    unfold gw
    simp only
    rw[if_pos (by omega),bB hi,bB (by omega),wr (x:=(i:Int)+1) (by omega) (by omega)]
    simp only[obnd]
    rw[wr (x:=ps.getD i 0 - 1) (by omega) (by omega),bJ (ts:=setV ps vs x.values i) (by omega) (by rw[pq];omega)]
    simp only
    rw[pY];rfl
   ·unfold gw
    simp only
    rw[if_neg (by omega)]
  change obnd (ak _ (((0:Nat):Int),setV ps vs x.values 0)) _=_
  rw[key]
  simp only[obnd]
  rw[wr (by omega) (by omega)];rfl
theorem yX {ps vs v:List Int}(hv:v.length=3)(hp:∀ p,p∈ps→1≤p∧p≤3):∀ n,n≤ps.length→∀ k:Int,0≤k→(∀ i,i<n→ps.getD i 0 - 1≠k)→tm (setV ps vs v n) k=tm v k
 | 0,_,k,_,_=>rfl
 | n+1,hn,k,hk,h=>by
  rw[pY]
  have hb:=hp (ps.getD n 0) (by rw[List.getD_eq_getElem?_getD,List.getElem?_eq_getElem (show n<ps.length by omega)];exact List.getElem_mem _)
  rw[tJ _ _ _ _ (by omega) (by rw[pq];omega) hk,if_neg (fun e=>h n (by omega) e.symm)]
  exact yX hv hp n (by omega) k hk (fun i hi=>h i (by omega))
theorem KX {ps vs v:List Int}(hv:v.length=3)(hp:∀ p,p∈ps→1≤p∧p≤3)(hl:vs.length=ps.length):∀ n,n≤ps.length→∀ k:Int,0≤k→(∃ i,i<n∧ps.getD i 0 - 1=k)→tm (setV ps vs v n) k∈vs
 | 0,_,k,_,h=>by obtain⟨i,hi,_⟩:=h;omega
 | n+1,hn,k,hk,h=>by
  rw[pY]
  have hb:=hp (ps.getD n 0) (by rw[List.getD_eq_getElem?_getD,List.getElem?_eq_getElem (show n<ps.length by omega)];exact List.getElem_mem _)
  rw[tJ _ _ _ _ (by omega) (by rw[pq];omega) hk]
  by_cases e:k=ps.getD n 0 - 1
  ·rw[if_pos e,List.getD_eq_getElem?_getD,List.getElem?_eq_getElem (show n<vs.length by omega)]
   exact List.getElem_mem _
  ·rw[if_neg e]
   obtain⟨i,hi,he⟩:=h
   exact KX hv hp hl n (by omega) k hk ⟨i,by rcases Nat.lt_or_ge i n with h1|h1;exact h1;exact absurd (by rw[← he,show i=n by omega]) e,he⟩
theorem IQ {ps vs v:List Int}{y:Int}:∀ n,y∈setV ps vs v n→y∈v∨∃ i,i<n∧y=vs.getD i 0
 | 0,h=>.inl h
 | n+1,h=>by
  rw[pY]at h
  rcases List.mem_or_eq_of_mem_set h with h|h
  ·rcases IQ n h with h|⟨i,hi,h⟩
   ·exact .inl h
   ·exact .inr ⟨i,by omega,h⟩
  ·exact .inr ⟨n,by omega,h⟩
theorem vi {s:GShow}{x:GState}(h:MomR s x){nodes:List Int}(hn:∀ k,k∈nodes→k∈enL s x){vs:List Int}(hl:vs.length=(ay s nodes).length)(hv:∀ v,v∈vs→v=1∨v=-1) :
  aB s (obsX (decX x nodes) (ay s nodes) vs)=true:=by
 have h7:=h.right.nodes
 have hln:=h.len
 obtain⟨v1,v2⟩:=aV h.val
 have hnx:=h.nxt
 have hp:∀ p,p∈ay s nodes→1≤p∧p≤3:=fun p hp=>⟨(bC hp).1,(bC hp).2.1⟩
 have htm:∀ {i:Int},0≤i→tm (bf (fun k=>k) x.now nodes x.times) i=if i∈nodes then x.now else tm x.times i:=by
  intro i hi
  rw[um _ _ _ _ _ hi (fun k hk=>by obtain⟨j,hj,e,_,_⟩:=mZ (hn k hk);omega),List.map_id']
 unfold aB at hnx
 simp only[Bool.and_eq_true,decide_eq_true_eq]at hnx
 obtain⟨⟨⟨⟨⟨a1,a2⟩,a3⟩,a4⟩,a5⟩,a6⟩:=hnx
 have hT:(obsX (decX x nodes) (ay s nodes) vs).times=bf (fun k=>k) x.now nodes x.times:=rfl
 have hN:(obsX (decX x nodes) (ay s nodes) vs).now=x.now+1:=rfl
 have hV:(obsX (decX x nodes) (ay s nodes) vs).values=setV (ay s nodes) vs x.values (ay s nodes).length:=rfl
 unfold aB
 simp only[Bool.and_eq_true,decide_eq_true_eq]
 refine⟨⟨⟨⟨⟨h.ok,?_⟩,?_⟩,?_⟩,?_⟩,?_⟩
 ·rw[hN];have:=h.now;omega
 ·rw[hT,cu];exact hln
 ·rw[hV]
  unfold cH
  rw[Bool.and_eq_true,decide_eq_true_eq,List.all_eq_true,pq]
  refine⟨v1,?_⟩
  intro y hy
  rcases IQ _ hy with h1|⟨i,hi,rfl⟩
  ·exact decide_eq_true (v2 y h1)
  ·have:=hv (vs.getD i 0) (by rw[List.getD_eq_getElem?_getD,List.getElem?_eq_getElem (show i<vs.length by omega)];exact List.getElem_mem _)
   exact decide_eq_true (by omega)
 ·intro i hi
  rw[hT,cu]at hi
  have h5:=a5 i hi
  unfold kj at h5 ⊢
  rw[hT,hN]
  change (if i=0 then decide (tm x.times 0=0) else decide (-1≤tm x.times i∧tm x.times i≤x.now+1 - 1))=true at h5
  by_cases h0:i=0
  ·rw[if_pos h0]at h5 ⊢
   rw[htm (Int.le_refl 0),if_neg (fun hm=>by obtain⟨j,_,e,hj,_⟩:=mZ (hn _ hm);omega)]
   exact h5
  ·rw[if_neg h0]at h5 ⊢
   rw[decide_eq_true_eq]at h5 ⊢
   rw[htm (by omega)]
   have:=h.now
   split <;> omega
 ·intro i hi
  have h6:=a6 i hi
  unfold jn at h6 ⊢
  rw[hT,hV]
  change (decide (tm x.values i≠0) == (decide (0≤cJ s ((i:Int)+1))&&decide (tm x.times (cJ s ((i:Int)+1))≠-1)))=true at h6
  change (decide (tm (setV (ay s nodes) vs x.values (ay s nodes).length) i≠0) == (decide (0≤cJ s ((i:Int)+1))&&decide (tm (bf (fun k=>k) x.now nodes x.times) (cJ s ((i:Int)+1))≠-1)))=true
  by_cases hw:0≤cJ s ((i:Int)+1)
  ·rw[decide_eq_true hw,Bool.true_and,htm hw]
   rw[decide_eq_true hw,Bool.true_and]at h6
   by_cases hm:cJ s ((i:Int)+1)∈nodes
   ·rw[if_pos hm,decide_eq_true (show x.now≠-1 by have:=h.now;omega)]
    have hpm:(i:Int)+1∈ay s nodes:=by
     unfold ay
     rw[List.mem_filter]
     unfold dR at hi
     refine⟨?_,decide_eq_true hm⟩
     simp only[List.mem_cons,List.not_mem_nil,or_false]
     omega
    obtain⟨j,hj,e⟩:=List.getElem_of_mem hpm
    have hin:=KX v1 hp hl _ (Nat.le_refl _) (i:Int) (by omega) ⟨j,hj,by rw[List.getD_eq_getElem?_getD,List.getElem?_eq_getElem hj,e,Option.getD_some];omega⟩
    have:=hv _ hin
    rw[decide_eq_true (show tm (setV (ay s nodes) vs x.values (ay s nodes).length) i≠0 by omega)];rfl
   ·rw[if_neg hm,yX v1 hp _ (Nat.le_refl _) _ (by omega)]
    ·exact h6
    ·intro j hj he
     refine hm ?_
     have:=(bC (s:=s) (nodes:=nodes) (p:=(ay s nodes).getD j 0) (by rw[List.getD_eq_getElem?_getD,List.getElem?_eq_getElem hj];exact List.getElem_mem _)).2.2
     rwa [show(ay s nodes).getD j 0=(i:Int)+1 by omega]at this
  ·rw[decide_eq_false hw]at h6 ⊢
   rw[yX v1 hp _ (Nat.le_refl _) _ (by omega)]
   ·simpa using h6
   ·intro j hj he
    have:=(bC (s:=s) (nodes:=nodes) (p:=(ay s nodes).getD j 0) (by rw[List.getD_eq_getElem?_getD,List.getElem?_eq_getElem hj];exact List.getElem_mem _)).2.2
    rw[show(ay s nodes).getD j 0=(i:Int)+1 by omega]at this
    obtain⟨q,hq,e,_,_⟩:=mZ (hn _ this)
    omega
end Go.Proofs.Qe
set_option maxRecDepth 100000
namespace Go.Proofs.Qe
open Go
def jK:GState:=⟨0,[],[]⟩
def sgn (x:Int):Int:=if x<0 then -1 else 1
def rB (s:GShow)(x:GState)(e:GEntry):Prop:=e.now=x.now∧e.ties∈bm s x∧bF e.values=true∧e.nodes∈decL s (endX s x e.ties)∧e.values.map pr=ay s e.nodes
noncomputable instance (s:GShow) (x:GState) (e:GEntry):Decidable (rB s x e):=Classical.propDecidable _
noncomputable def bO (s:GShow)(x:GState)(e:GEntry):GState × Bool:=
 if rB s x e then (obsX (decX (endX s x e.ties) e.nodes) (ay s e.nodes) (e.values.map sgn),true) else (jK,false)
theorem IR {x:Int}(h0:x≠0)(h1:-3≤x)(h2:x≤3):(0≤x→pr x=x)∧(x<0→pr x=0 - x)∧Int.tdiv x (pr x)=sgn x∧IntKind.wrap .i64 (Int.tdiv x (pr x))=sgn x:=by
 have key:∀ y:Int,y=-3∨y=-2∨y=-1∨y=1∨y=2∨y=3→(0≤y→pr y=y)∧(y<0→pr y=0 - y)∧Int.tdiv y (pr y)=sgn y∧IntKind.wrap .i64 (Int.tdiv y (pr y))=sgn y:=by
  intro y hy
  rcases hy with rfl|rfl|rfl|rfl|rfl|rfl <;> decide
 exact key x (by omega)
theorem vV {l:List Int}(h:bF l=true){x:Int}(hx:x∈l):x≠0∧-3≤x∧x≤3∧1≤pr x∧pr x≤3:=by
 obtain⟨h1,h2,h3⟩:=xM h hx
 have h4:=IP h2 h3
 refine⟨?_,h2,h3,by omega,h4⟩
 rintro rfl
 have:pr 0=0:=rfl
 omega
theorem KY {l:List Int}(h:bF l=true)(hc:l.length≤1048576):l.length≤3:=by
 have hasc:Asc (l.map pr):=by
  unfold Asc
  rw[List.pairwise_iff_getElem]
  intro i j hi hj hij
  rw[List.length_map]at hi hj
  simp only[List.getElem_map]
  have hl:=h
  unfold bF at hl
  rw[decide_eq_true_eq]at hl
  have step:∀ n (hn:n+1<l.length),pr (l[n]'(by omega))<pr l[n+1]:=by
   intro n hn
   have:=hl (n+1) hn
   unfold labP at this
   rw[decide_eq_true_eq]at this
   have:=this.2.2.2 (by omega)
   rw[List.getD_eq_getElem?_getD,List.getD_eq_getElem?_getD,show n+1 - 1=n by omega,List.getElem?_eq_getElem (by omega),List.getElem?_eq_getElem hn]at this
   exact this
  have mono:∀ k,∀ hk:i+k+1<l.length,pr (l[i]'(by omega))<pr l[i+k+1]:=by
   intro k
   induction k with
   | zero=>intro hk;exact step i hk
   | succ k ih=>
    intro hk
    have h1:=ih (by omega)
    have h2:=step (i+k+1) hk
    show pr l[i]<pr l[i+k+1+1]
    omega
  have:=mono (j - i - 1) (by omega)
  have e:i+(j - i - 1)+1=j:=by omega
  simp only[e]at this
  exact this
 have:=ul (r:=[1,2,3]) hasc.nodup (fun y hy=>by
  rw[List.mem_map]at hy
  obtain⟨x,hx,rfl⟩:=hy
  obtain⟨_,_,_,h1,h2⟩:=vV h hx
  simp only[List.mem_cons,List.not_mem_nil,or_false]
  omega)
 simpa using this
theorem oX {s:GShow}{x:GState}(h:aB s x=true):aI s=true∧x.values.length=3∧x.times.length≤7:=by
 have hR:=cD h
 have hl:=hR.len
 have h7:=hR.right.nodes
 unfold aB at h
 simp only[Bool.and_eq_true]at h
 exact⟨h.1.1.1.1.1,(aV h.1.1.2).1,by omega⟩
theorem Mo {s:GShow}{x:GState}{e:GEntry}(hs:aR s)(hx:aB s x=true)(he:FitE e):nD s x e=some (bO s x e):=by
 obtain⟨hok,hv3,ht7⟩:=oX hx
 have e1:=he.ties
 have e2:=he.nodes
 have e3:=he.values
 have hel:=pX hok (x:=x)
 unfold nD
 have no:¬ rB s x e→some ((GState.mk 0 ([]) ([])),false)=some (bO s x e):=fun h=>by unfold bO;rw[if_neg h];rfl
 by_cases h1:e.now=x.now
 ·rw[if_pos h1,vR hx]
  simp only[obnd]
  rw[AS _ _ (by unfold Cnt;omega) (by unfold Cnt;omega)]
  simp only
  by_cases h2:e.ties∈bm s x
  ·rw[if_pos (decide_eq_true h2),nL _ (by unfold Cnt;omega)]
   simp only
   obtain⟨a1,a2,a3⟩:=ia hok h2
   have hm:=uo (vT hx a1 a3)
   by_cases h3:bF e.values=true
   ·rw[if_pos h3,AW hx (by omega) (by omega) a3]
    simp only
    rw[tL hs hm]
    simp only
    have hdl:=rA hm.right (endX s x e.ties)
    rw[AS _ _ (by unfold Cnt;omega) (by unfold Cnt;omega)]
    simp only
    by_cases h4:e.nodes∈decL s (endX s x e.ties)
    ·rw[if_pos (decide_eq_true h4)]
     obtain⟨b1,b2,b3⟩:=dc hm.right h4
     rw[vU hm b1 b2 b3]
     simp only
     have hl3:=KY h3 e3
     have key:ak (kO e.values ((e.values.length:Nat):Int) (decX (endX s x e.ties) e.nodes).now (decX (endX s x e.ties) e.nodes).times (decX (endX s x e.ties) e.nodes).values (ay s e.nodes)) (((0:Nat):Int),(e.values.take 0).map pr,(e.values.take 0).map sgn)=some (e.values.map pr,e.values.map sgn):=by
      refine aH e.values.length (fun i=>((i:Int),(e.values.take i).map pr,(e.values.take i).map sgn)) ?_ ?_
      ·intro i hi
       obtain⟨v1,v2,v3,v4,v5⟩:=vV h3 (List.getElem_mem hi)
       obtain⟨_,_,_,w4⟩:=IR v1 v2 v3
       unfold kO
       simp only
       rw[if_pos (by omega),an hi]
       simp only[obnd]
       rw[se]
       simp only
       rw[ah (by rw[List.length_map,List.length_take];omega),ah (by rw[List.length_map,List.length_take];omega),ah (by omega),ah (by rw[List.length_map,List.length_take];omega),ah (by rw[List.length_map,List.length_take];omega),wr (x:=(i:Int)+1) (by omega) (by omega),w4,List.take_succ_eq_append_getElem hi,List.map_append,List.map_append];rfl
      ·unfold kO
       simp only
       rw[if_neg (by omega),List.take_length]
     simp only[List.take_zero,List.map_nil,Int.natCast_zero]at key
     rw[key]
     simp only
     rw[li _ _ (by unfold Cnt;rw[List.length_map];omega)]
     simp only
     by_cases h5:e.values.map pr=ay s e.nodes
     ·rw[if_pos (decide_eq_true h5)]
      have hnow:=hm.now
      have hh:=hm.right.hor
      have hpl:=nG s e.nodes
      have hn:0≤(decX (endX s x e.ties) e.nodes).now∧(decX (endX s x e.ties) e.nodes).now≤1000:=by
       show 0≤(endX s x e.ties).now∧(endX s x e.ties).now≤1000
       omega
      have hobs:=(mI (decX (endX s x e.ties) e.nodes) (ay s e.nodes) (e.values.map sgn) hn (by show(bf _ _ _ (bf _ _ _ _)).length≤_;rw[cu,cu];omega) hv3 (fun p hp=>⟨(bC hp).1,(bC hp).2.1⟩) (by rw[← h5,List.length_map,List.length_map]) (by omega)).1
      rw[hobs]
      simp only
      unfold bO
      rw[if_pos ⟨h1,h2,h3,h4,h5⟩]
     ·rw[if_neg (by rw[decide_eq_false h5];simp)]
      exact no (fun h=>h5 h.2.2.2.2)
    ·rw[if_neg (by rw[decide_eq_false h4];simp)]
     exact no (fun h=>h4 h.2.2.2.1)
   ·rw[if_neg h3]
    exact no (fun h=>h3 h.2.2.1)
  ·rw[if_neg (by rw[decide_eq_false h2];simp)]
   exact no (fun h=>h2 h.2.1)
 ·rw[if_neg h1]
  exact no (fun h=>h1 h.1)
theorem Mp {s:GShow}{x:GState}{e:GEntry}(hs:aR s)(hx:aB s x=true)(he:FitE e):kG s x e=some (bO s x e):=by
 obtain⟨hok,hv3,ht7⟩:=oX hx
 have e1:=he.ties
 have e2:=he.nodes
 have e3:=he.values
 have hel:=pX hok (x:=x)
 unfold kG de
 have no:¬ rB s x e→some ((GState.mk 0 ([]) ([])),false)=some (bO s x e):=fun h=>by unfold bO;rw[if_neg h];rfl
 rw[tI hs hx (by omega) (by omega)]
 simp only[obnd]
 rw[AU _ _ (by unfold Cnt;omega) (fun y hy=>by obtain⟨_,h2,_⟩:=ia hok hy;unfold Cnt;omega)]
 simp only
 by_cases h2:e.ties∈bm s x
 ·rw[if_pos (decide_eq_true h2)]
  obtain⟨a1,a2,a3⟩:=ia hok h2
  have hm:=uo (vT hx a1 a3)
  rw[xC hx (by omega) (by omega) a3]
  simp only[if_true]
  by_cases h1:e.now=x.now
  ·rw[if_pos h1,qV _ (by unfold Cnt;omega)]
   simp only
   by_cases h3:bF e.values=true
   ·rw[if_pos h3]
    unfold js
    rw[vg hs hm]
    simp only[obnd]
    have hdl:=rA hm.right (endX s x e.ties)
    rw[AU _ _ (by unfold Cnt;omega) (fun y hy=>by obtain⟨_,h2,_⟩:=dc hm.right hy;unfold Cnt;omega)]
    simp only
    by_cases h4:e.nodes∈decL s (endX s x e.ties)
    ·rw[if_pos (decide_eq_true h4)]
     obtain⟨b1,b2,b3⟩:=dc hm.right h4
     rw[tM hs hm b2 b3]
     simp only[if_true]
     have hl3:=KY h3 e3
     have hpl:=nG s e.nodes
     by_cases h6:((ay s e.nodes).length:Int)=(e.values.length:Int)
     ·rw[if_pos h6]
      have key:ak (fe (((ay s e.nodes).length:Nat):Int) e.now e.ties e.nodes e.values (decX (endX s x e.ties) e.nodes).now (decX (endX s x e.ties) e.nodes).times (decX (endX s x e.ties) e.nodes).values (ay s e.nodes)) (((0:Nat):Int),(e.values.take 0).map sgn)=some (if ∀ i,i<e.values.length→decide (pr (e.values.getD i 0)=(ay s e.nodes).getD i 0)=true then .inl (e.values.map sgn) else .inr ((GState.mk 0 ([]) ([])),false)):=by
       refine bX e.values.length (fun i=>((i:Int),(e.values.take i).map sgn)) (fun i=>decide (pr (e.values.getD i 0)=(ay s e.nodes).getD i 0)) ?_ ?_ ?_
       ·intro i hi hp
        rw[decide_eq_true_eq]at hp
        obtain⟨v1,v2,v3,v4,v5⟩:=vV h3 (List.getElem_mem hi)
        obtain⟨w1,w2,w3,w4⟩:=IR v1 v2 v3
        have ed:e.values.getD i 0=e.values[i]:=by rw[List.getD_eq_getElem?_getD,List.getElem?_eq_getElem hi];rfl
        rw[ed]at hp
        unfold fe
        simp only
        rw[if_pos (by omega),bB (show i<(ay s e.nodes).length by omega),an hi]
        simp only[obnd]
        rw[← hp,ah (by rw[List.length_map,List.length_take];omega),ah (by rw[List.length_map,List.length_take];omega),wr (x:=(i:Int)+1) (by omega) (by omega),wr (x:=0 - pr e.values[i]) (by omega) (by omega),List.take_succ_eq_append_getElem hi,List.map_append]
        by_cases hneg:e.values[i]<0
        ·have:=w2 hneg
         rw[if_pos (by omega)]
         have es:sgn e.values[i]=-1:=by unfold sgn;rw[if_pos hneg]
         simp only[List.map_cons,List.map_nil,es];rfl
        ·have:=w1 (by omega)
         rw[if_neg (by omega),if_pos (by omega),ah (by rw[List.length_map,List.length_take];omega),ah (by rw[List.length_map,List.length_take];omega)]
         have es:sgn e.values[i]=1:=by unfold sgn;rw[if_neg hneg]
         simp only[List.map_cons,List.map_nil,es];rfl
       ·intro i hi hp
        rw[decide_eq_false_iff_not]at hp
        obtain⟨v1,v2,v3,v4,v5⟩:=vV h3 (List.getElem_mem hi)
        obtain⟨w1,w2,w3,w4⟩:=IR v1 v2 v3
        have ed:e.values.getD i 0=e.values[i]:=by rw[List.getD_eq_getElem?_getD,List.getElem?_eq_getElem hi];rfl
        rw[ed]at hp
        have hpm:=bC (s:=s) (nodes:=e.nodes) (p:=(ay s e.nodes).getD i 0) (by rw[List.getD_eq_getElem?_getD,List.getElem?_eq_getElem (show i<(ay s e.nodes).length by omega)];exact List.getElem_mem _)
        unfold fe
        simp only
        rw[if_pos (by omega),bB (show i<(ay s e.nodes).length by omega),an hi]
        simp only[obnd]
        rw[wr (x:=0 - (ay s e.nodes).getD i 0) (by omega) (by omega)]
        by_cases hneg:e.values[i]<0
        ·have:=w2 hneg
         rw[if_neg (by omega),if_neg (by omega)]
        ·have:=w1 (by omega)
         rw[if_neg (by omega),if_neg (by omega)]
       ·unfold fe
        simp only
        rw[if_neg (by omega),List.take_length]
      simp only[List.take_zero,List.map_nil,Int.natCast_zero]at key
      rw[key]
      have heq:(∀ i,i<e.values.length→decide (pr (e.values.getD i 0)=(ay s e.nodes).getD i 0)=true)↔e.values.map pr=ay s e.nodes:=by
       constructor
       ·intro h
        refine List.ext_getElem (by rw[List.length_map];omega) ?_
        intro i hi1 hi2
        rw[List.length_map]at hi1
        have:=h i hi1
        rw[decide_eq_true_eq,List.getD_eq_getElem?_getD,List.getElem?_eq_getElem hi1,List.getD_eq_getElem?_getD,List.getElem?_eq_getElem hi2]at this
        simpa using this
       ·intro h i hi
        rw[decide_eq_true_eq,← h,List.getD_eq_getElem?_getD,List.getD_eq_getElem?_getD,List.getElem?_map,List.getElem?_eq_getElem hi];rfl
      by_cases h5:e.values.map pr=ay s e.nodes
      ·rw[if_pos (heq.2 h5)]
       simp only
       have hnow:=hm.now
       have hh:=hm.right.hor
       have hn:0≤(decX (endX s x e.ties) e.nodes).now∧(decX (endX s x e.ties) e.nodes).now≤1000:=by
        show 0≤(endX s x e.ties).now∧(endX s x e.ties).now≤1000
        omega
       have hobs:=(mI (decX (endX s x e.ties) e.nodes) (ay s e.nodes) (e.values.map sgn) hn (by show(bf _ _ _ (bf _ _ _ _)).length≤_;rw[cu,cu];omega) hv3 (fun p hp=>⟨(bC hp).1,(bC hp).2.1⟩) (by rw[← h5,List.length_map,List.length_map]) (by omega)).2
       rw[hobs]
       simp only
       unfold bO
       rw[if_pos ⟨h1,h2,h3,h4,h5⟩]
      ·rw[if_neg (fun h=>h5 (heq.1 h))]
       exact no (fun h=>h5 h.2.2.2.2)
     ·rw[if_neg h6]
      exact no (fun h=>h6 (by rw[← h.2.2.2.2,List.length_map]))
    ·rw[if_neg (by rw[decide_eq_false h4];simp)]
     simp only
     rw[if_neg (by simp)]
     exact no (fun h=>h4 h.2.2.2.1)
   ·rw[if_neg h3]
    exact no (fun h=>h3 h.2.2.1)
  ·rw[if_neg h1]
   exact no (fun h=>h1 h.1)
 ·rw[if_neg (by rw[decide_eq_false h2];simp)]
  simp only
  rw[if_neg (by simp)]
  exact no (fun h=>h2 h.2.1)
theorem EG {s:GShow}{x:GState}{e:GEntry}(hx:aB s x=true)(h:(bO s x e).2=true):aB s (bO s x e).1=true:=by
 obtain⟨hok,hv3,ht7⟩:=oX hx
 unfold bO at h ⊢
 by_cases he:rB s x e
 ·rw[if_pos he]
  obtain⟨h1,h2,h3,h4,h5⟩:=he
  obtain⟨a1,a2,a3⟩:=ia hok h2
  have hm:=uo (vT hx a1 a3)
  obtain⟨b1,b2,b3⟩:=dc hm.right h4
  refine vi hm b3 (by rw[← h5,List.length_map,List.length_map]) ?_
  intro v hv
  rw[List.mem_map]at hv
  obtain⟨y,_,rfl⟩:=hv
  unfold sgn
  split
  ·exact .inr rfl
  ·exact .inl rfl
 ·rw[if_neg he]at h;cases h
noncomputable def aP (s:GShow):GState→List GEntry→GState × Bool
 | x,[]=>(x,true)
 | x,e::r=>if (bO s x e).2=true then aP s (bO s x e).1 r else (jK,false)
noncomputable def bp (s:GShow)(log:List GEntry):GState × Bool:=if aI s=true then aP s (ek s) log else (jK,false)
theorem FN {s:GShow}:∀ (log:List GEntry) (x:GState),aB s x=true→(aP s x log).2=true→aB s (aP s x log).1=true
 | [],x,hx,_=>hx
 | e::r,x,hx,h=>by
  unfold aP at h ⊢
  by_cases he:(bO s x e).2=true
  ·rw[if_pos he]at h ⊢
   exact FN r _ (EG hx he) h
  ·rw[if_neg he]at h;cases h
theorem ut {s:GShow}:∀ (log:List GEntry) (x:GState),(aP s x log).2=false→aP s x log=(jK,false)
 | [],x,h=>by cases h
 | e::r,x,h=>by
  unfold aP at h ⊢
  by_cases he:(bO s x e).2=true
  ·rw[if_pos he]at h ⊢
   exact ut r _ h
  ·rw[if_neg he]
theorem tN {s:GShow}(h:aI s=true):aB s (ek s)=true:=by
 have hR:=bZ h
 have h1:=hR.node1
 have hh:=hR.hor
 have hl:(ek s).times.length=s.nodes.length:=sV _
 have htm:∀ i:Nat,i<s.nodes.length→tm (ek s).times (i:Int)=if i=0 then 0 else -1:=by
  have key:∀ n i:Nat,i<n→(stL n)[i]?=some (if i=0 then 0 else -1):=by
   intro n
   induction n with
   | zero=>intro i hi;omega
   | succ n ih=>
    intro i hi
    cases n with
    | zero=>
     obtain rfl:i=0:=by omega
     rfl
    | succ n=>
     rw[Iz]
     by_cases hlt:i<n+1
     ·rw[List.getElem?_append_left (by rw[sV];exact hlt)]
      exact ih i hlt
     ·obtain rfl:i=n+1:=by omega
      rw[List.getElem?_append_right (by rw[sV];exact Nat.le_refl _),sV,Nat.sub_self,if_neg (by omega)];rfl
  intro i hi
  unfold tm
  rw[Int.toNat_natCast,show(ek s).times=stL s.nodes.length from rfl,key _ i hi];rfl
 unfold aB
 simp only[Bool.and_eq_true,decide_eq_true_eq]
 refine⟨⟨⟨⟨⟨h,?_⟩,hl⟩,?_⟩,?_⟩,?_⟩
 ·show 0≤(0:Int)∧(0:Int)≤s.horizon+1;omega
 ·show cH [0,0,0]=true;decide
 ·intro i hi
  unfold kj
  have e:=htm i (by omega)
  by_cases h0:i=0
  ·subst h0
   rw[if_pos rfl]
   rw[if_pos rfl]at e
   exact decide_eq_true e
  ·rw[if_neg h0]
   rw[if_neg h0]at e
   rw[e]
   exact decide_eq_true ⟨by omega,by show(-1:Int)≤0 - 1;omega⟩
 ·intro i hi
  unfold jn
  have ev:tm (ek s).values (i:Int)=0:=by
   unfold dR at hi
   have:i=0∨i=1∨i=2:=by omega
   rcases this with rfl|rfl|rfl <;> rfl
  rw[ev]
  by_cases hw:0≤aK s.nodes (fun n=>decide (n.watch=(i:Int)+1))
  ·obtain⟨j,hj,e,hq,_⟩:=jw hw
   have hj0:j≠0:=by
    rintro rfl
    have hf:=h
    unfold aI fN at hf
    simp only[Bool.and_eq_true]at hf
    have hf:=hf.1.1.1.1.1.2
    unfold sY at hf
    rw[List.getElem?_eq_getElem hj]at hf
    simp only[Option.any_some,Bool.and_eq_true,decide_eq_true_eq]at hf
    have:=of_decide_eq_true hq
    omega
   rw[e,htm j hj,if_neg hj0]
   simp
  ·rw[decide_eq_false hw];simp
theorem AB {s:GShow}(log:List GEntry)(hl:log.length≤1048576)(body:(Int × Int × (List Int) × (List Int))→Option (Step (Int × Int × (List Int) × (List Int)) (Sum (Int × (List Int) × (List Int)) (GState × Bool))))
  (h1:∀ (i:Nat) (hi:i<log.length) (x:GState),aB s x=true→body ((i:Int),x.now,x.times,x.values)=(if (bO s x log[i]).2=true then some (.next (((i+1:Nat):Int),(bO s x log[i]).1.now,(bO s x log[i]).1.times,(bO s x log[i]).1.values)) else some (.done (.inr (jK,false)))))
  (h2:∀ x:GState,body ((log.length:Nat),x.now,x.times,x.values)=some (.done (.inl (x.now,x.times,x.values)))) :
  ∀ (n i:Nat),i+n=log.length→∀ x,aB s x=true→ak body ((i:Int),x.now,x.times,x.values)=some (if (aP s x (log.drop i)).2=true then .inl ((aP s x (log.drop i)).1.now,(aP s x (log.drop i)).1.times,(aP s x (log.drop i)).1.values) else .inr (jK,false)):=by
 intro n
 induction n with
 | zero=>
  intro i hi x hx
  obtain rfl:i=log.length:=by omega
  rw[aZ,h2,List.drop_length]
  rfl
 | succ n ih=>
  intro i hi x hx
  have hi':i<log.length:=by omega
  rw[aZ,h1 i hi' x hx,List.drop_eq_getElem_cons hi']
  by_cases he:(bO s x log[i]).2=true
  ·rw[if_pos he]
   simp only
   rw[ih (i+1) (by omega) _ (EG hx he)]
   simp only[aP,if_pos he]
  ·rw[if_neg he]
   simp only[aP,if_neg he]
   rfl
theorem oa (s:GShow)(log:List GEntry)(hf:FitS s)(hl:log.length≤1048576)(he:∀ e,e∈log→FitE e):cv s log=some (bp s log):=by
 have hs:=hf.small
 unfold cv bp
 rw[uE s hs]
 simp only[obnd]
 by_cases hok:aI s=true
 ·rw[if_pos hok,if_pos hok,Da s hs hok]
  simp only
  have hst:=tN hok
  have key:=AB (s:=s) log hl (gC log ((log.length:Nat):Int) s.nodes s.ties s.horizon) ?_ ?_ log.length 0 (by omega) (ek s) hst
  ·rw[List.drop_zero]at key
   rw[show(0:Int)=((0:Nat):Int) from rfl,key]
   cases h2:(aP s (ek s) log).2
   ·rw[if_neg (by simp)]
    simp only
    rw[ut _ _ h2]
   ·rw[if_pos rfl]
    simp only
    generalize hr:aP s (ek s) log=q at h2
    obtain⟨y,b⟩:=q
    simp only at h2
    subst h2
    rfl
  ·intro i hi x hx
   unfold gC
   simp only
   rw[if_pos (by omega),an hi,wr (x:=(i:Int)+1) (by omega) (by omega)]
   simp only[obnd]
   rw[show(GShow.mk s.nodes s.ties s.horizon)=s from rfl,show(GState.mk x.now x.times x.values)=x from rfl,Mo hs hx (he _ (List.getElem_mem hi))]
   rfl
  ·intro x
   unfold gC
   simp only
   rw[if_neg (by omega)]
 ·rw[if_neg hok,if_neg hok];rfl
theorem IS (s:GShow)(log:List GEntry)(hf:FitS s)(hl:log.length≤1048576)(he:∀ e,e∈log→FitE e)(hok:aI s=true):jT s log=some (bp s log):=by
 have hs:=hf.small
 unfold jT bp
 rw[uk s hs hok]
 simp only[obnd]
 have hst:=tN hok
 have key:=AB (s:=s) log hl (gx log ((log.length:Nat):Int) s.nodes s.ties s.horizon) ?_ ?_ log.length 0 (by omega) (ek s) hst
 ·rw[List.drop_zero]at key
  rw[show(0:Int)=((0:Nat):Int) from rfl,key,if_pos hok]
  cases h2:(aP s (ek s) log).2
  ·rw[if_neg (by simp)]
   simp only
   rw[ut _ _ h2]
  ·rw[if_pos rfl]
   simp only
   rw[mK s hs,hok]
   simp only
   generalize hr:aP s (ek s) log=q at h2
   obtain⟨y,b⟩:=q
   simp only at h2
   subst h2
   rfl
 ·intro i hi x hx
  unfold gx
  simp only
  rw[if_pos (by omega),an hi,wr (x:=(i:Int)+1) (by omega) (by omega)]
  simp only[obnd]
  rw[show(GShow.mk s.nodes s.ties s.horizon)=s from rfl,show(GState.mk x.now x.times x.values)=x from rfl,Mp hs hx (he _ (List.getElem_mem hi))]
  rfl
 ·intro x
  unfold gx
  simp only
  rw[if_neg (by omega)]
end Go.Proofs.Qe
set_option maxRecDepth 100000
namespace Go.Proofs.Qe
open Go
theorem IT {s:GShow}(log:List GEntry):((bp s log).2=true∧aB s (bp s log).1=true)∨bp s log=(jK,false):=by
 unfold bp
 by_cases h:aI s=true
 ·rw[if_pos h]
  cases h2:(aP s (ek s) log).2
  ·exact .inr (ut _ _ h2)
  ·exact .inl ⟨rfl,FN _ _ (tN h) h2⟩
 ·rw[if_neg h];exact .inr rfl
theorem Dh (s:GShow)(log:List GEntry):FitX (bp s log).1:=by
 rcases IT (s:=s) log with ⟨_,h⟩|h
 ·obtain⟨_,h2,h3⟩:=oX h
  exact⟨by omega,by omega⟩
 ·rw[h];exact⟨by simp[jK],by simp[jK]⟩
noncomputable def bP (d:GDesk):Bool:=aB d.show_ d.state&&decide ((d.log.length:Int)=d.state.now)&&(bp d.show_ d.log).2&&decide ((bp d.show_ d.log).1=d.state)
theorem uC (d:GDesk)(h:FitD d):cX d=some (bP d):=by
 have x1:=h.st.times
 have x2:=h.st.values
 unfold cX bP
 rw[xy _ _ h.sh.small x1 x2]
 simp only[obnd]
 cases aB d.show_ d.state
 ·rfl
 ·rw[if_pos rfl]
  by_cases hn:(d.log.length:Int)=d.state.now
  ·rw[if_pos hn,oa _ _ h.sh h.log h.entry,decide_eq_true hn]
   simp only
   cases hr:(bp d.show_ d.log).2
   ·rfl
   ·rw[if_pos rfl,qN _ _ (Dh _ _)];rfl
  ·rw[if_neg hn,decide_eq_false hn];rfl
theorem Kk (d:GDesk)(h:FitD d):mz d=some (bP d):=by
 have x1:=h.st.times
 have x2:=h.st.values
 unfold mz bP
 rw[tF _ _ h.sh.small x1 x2]
 simp only[obnd]
 cases hst:aB d.show_ d.state
 ·rfl
 ·have hok:=(oX hst).1
  rw[if_pos rfl]
  by_cases hn:(d.log.length:Int)=d.state.now
  ·rw[if_pos hn,IS _ _ h.sh h.log h.entry hok,decide_eq_true hn]
   simp only
   cases hr:(bp d.show_ d.log).2
   ·rfl
   ·rw[if_pos rfl,CZ _ _ (Dh _ _)];rfl
  ·rw[if_neg hn,decide_eq_false hn];rfl
end Go.Proofs.Qe
set_option maxRecDepth 100000
namespace Go.Proofs.Qe
open Go
theorem NM {l v:List Int}(hv:cH v=true)(hl:bF l=true):-1≤dn l v∧dn l v≤1:=by
 obtain⟨h3,hb⟩:=aV hv
 have tmb:∀ k:Int,-1≤tm v k∧tm v k≤1:=by
  intro k
  unfold tm
  cases hk:v[k.toNat]? with
  | none=>simp
  | some y=>exact hb y (List.mem_of_getElem? hk)
 unfold dn
 have key:∀ (l:List Int) (o:Int),-1≤o∧o≤1→-1≤l.foldl (fun o x=>if litV v x<o then litV v x else o) o∧l.foldl (fun o x=>if litV v x<o then litV v x else o) o≤1:=by
  intro l
  induction l with
  | nil=>intro o h;exact h
  | cons x l ih=>
   intro o h
   simp only[List.foldl_cons]
   refine ih _ ?_
   have:=tmb (pr x - 1)
   unfold litV
   split <;> split <;> omega
 exact key l 1 (by omega)
structure StR (s:GShow) (x:GState):Prop where
 ok:aI s=true
 right:rJ s
 len:x.times.length=s.nodes.length
 val:cH x.values=true
 now:0≤x.now∧x.now≤s.horizon+1
 all:∀ i:Int,0≤i→i<s.nodes.length→-1≤tm x.times i∧tm x.times i≤11
theorem bl {s:GShow}{x:GState}(h:aB s x=true):StR s x:=by
 have hR:=cD h
 have h2:=h
 unfold aB at h2
 simp only[Bool.and_eq_true,decide_eq_true_eq]at h2
 obtain⟨⟨⟨⟨⟨a1,a2⟩,a3⟩,a4⟩,a5⟩,a6⟩:=h2
 exact⟨a1,hR.right,a3,a4,a2,hR.all⟩
def late (s:GShow)(x:GState)(t:GTie):Bool:=
 if tm x.times t.from_=-1 then (if t.free=true then false else (if tm x.times t.to=-1 then false else decide (dn (jt s t.from_.toNat) x.values=1)&&decide (tm x.times t.to - x.now<t.low)))
 else if tm x.times t.to=-1 then (if t.free=true then false else decide (dn (jt s t.to.toNat) x.values=1)&&decide (t.high<x.now - tm x.times t.from_))
 else decide (tm x.times t.to - tm x.times t.from_<t.low) || decide (t.high<tm x.times t.to - tm x.times t.from_)
def qT (s:GShow)(x:GState)(i:Nat):Bool:=!(decide (tm x.times (i:Int)=-1) && !decide (dn (jt s i) x.values=-1))
def lc (s:GShow)(x:GState):Bool:=(List.range s.nodes.length).all (qT s x)
def fv (s:GShow)(x:GState):Bool:=s.ties.any (late s x) || (decide (s.horizon<x.now) && !lc s x)
theorem uu {n:Nat}{p:Nat→Bool}:(List.range n).all p=decide (∀ i,i<n→p i=true):=by
 rw[Bool.eq_iff_iff,List.all_eq_true,decide_eq_true_eq]
 exact⟨fun h i hi=>h i (List.mem_range.2 hi),fun h i hi=>h i (List.mem_range.1 hi)⟩
theorem lf {s:GShow}{x:GState}(hs:aR s)(h:StR s x){k:Int}(h0:0≤k)(h1:k<s.nodes.length):∃ b,getI s.nodes k=some b∧fV b.label x.values=some (dn (jt s k.toNat) x.values)∧cq b.label x.values=some (dn (jt s k.toNat) x.values):=by
 have hi:k.toNat<s.nodes.length:=by omega
 refine⟨s.nodes[k.toNat],?_,?_,?_⟩
 ·have:=an hi
  rwa [show((k.toNat:Nat):Int)=k by omega]at this
 ·rw[un (tK h.ok hi).1 h.val (hs.node _ (List.getElem_mem hi)).2,rz hi]
 ·rw[AA (tK h.ok hi).1 h.val (hs.node _ (List.getElem_mem hi)).2,rz hi]
theorem UU {s:GShow}{x:GState}(h:StR s x){i:Nat}(hi:i<s.nodes.length):-1≤dn (jt s i) x.values∧dn (jt s i) x.values≤1:=by
 rw[rz hi]
 exact NM h.val (tK h.ok hi).1
theorem qU {s:GShow}{x:GState}(hs:aR s)(h:StR s x){k:Int}(h0:0≤k)(h1:k<s.nodes.length):cV s x k=some (dn (jt s k.toNat) x.values):=by
 obtain⟨b,e1,e2,_⟩:=lf hs h h0 h1
 unfold cV
 rw[e1]
 simp only[obnd]
 rw[e2]
theorem EH {s:GShow}{x:GState}(hs:aR s)(h:StR s x){t:GTie}(ht:t∈s.ties):iw s x t=some (late s x t):=by
 have hT:=h.right.tie t ht
 have hln:=h.len
 have hn:=h.now
 have hh:=h.right.hor
 have b1:=h.all _ hT.f0 hT.f1
 have b2:=h.all _ hT.t0 hT.t1
 unfold iw late
 rw[bJ hT.f0 (by have:=hT.f1;omega),bJ hT.t0 (by have:=hT.t1;omega)]
 simp only[obnd]
 by_cases hf:tm x.times t.from_=-1
 ·rw[if_pos hf,if_pos hf]
  cases t.free
  ·simp only[Bool.false_eq_true,if_false]
   by_cases h2:tm x.times t.to=-1
   ·rw[if_pos h2,if_pos h2]
   ·rw[if_neg h2,if_neg h2,qU hs h hT.f0 hT.f1,wr (by omega) (by omega)]
    simp only
    by_cases h3:dn (jt s t.from_.toNat) x.values=1
    ·rw[if_pos h3,decide_eq_true h3];rfl
    ·rw[if_neg h3,decide_eq_false h3];rfl
  ·simp only[if_true]
 ·rw[if_neg hf,if_neg hf]
  by_cases h2:tm x.times t.to=-1
  ·rw[if_pos h2,if_pos h2]
   cases t.free
   ·simp only[Bool.false_eq_true,if_false]
    rw[qU hs h hT.t0 hT.t1,wr (by omega) (by omega)]
    simp only
    by_cases h3:dn (jt s t.to.toNat) x.values=1
    ·rw[if_pos h3,decide_eq_true h3];rfl
    ·rw[if_neg h3,decide_eq_false h3];rfl
   ·simp only[if_true]
  ·rw[if_neg h2,if_neg h2,wr (by omega) (by omega)]
   by_cases h3:tm x.times t.to - tm x.times t.from_<t.low
   ·rw[if_pos h3,decide_eq_true h3];rfl
   ·rw[if_neg h3,decide_eq_false h3];rfl
theorem vW {s:GShow}{x:GState}(hs:aR s)(h:StR s x):hY s x=some (lc s x):=by
 have hln:=h.len
 have h7:=h.right.nodes
 unfold hY lc
 have key:=bX (body:=gh x.times ((x.times.length:Nat):Int) s.nodes s.ties s.horizon x.now x.values) x.times.length (fun i=>(i:Int)) (qT s x) (rT:=.inl ()) (rF:=.inr false) ?_ ?_ ?_
 ·rw[show((0:Nat):Int)=0 from rfl]at key
  rw[key,uu,← hln]
  simp only[obnd]
  split
  ·rename_i q he
   split at he
   ·rename_i hp;rw[decide_eq_true hp]
   ·cases he
  ·rename_i q he
   split at he
   ·cases he
   ·rename_i hp;cases he;rw[decide_eq_false hp]
 ·intro i hi hp
  unfold gh
  try simp only
  rw[if_pos (by omega),dU hi]
  simp only[obnd]
  unfold qT at hp
  by_cases ht:tm x.times (i:Int)=-1
  ·rw[if_pos ht,show(GShow.mk s.nodes s.ties s.horizon)=s from rfl,show(GState.mk x.now x.times x.values)=x from rfl,qU hs h (by omega) (by omega),Int.toNat_natCast]
   simp only
   rw[decide_eq_true ht]at hp
   rw[if_pos (by simpa using hp),wr (by omega) (by omega)];rfl
  ·rw[if_neg ht,wr (by omega) (by omega)];rfl
 ·intro i hi hp
  unfold gh
  try simp only
  rw[if_pos (by omega),dU hi]
  simp only[obnd]
  unfold qT at hp
  simp only[Bool.not_eq_false',Bool.and_eq_true,decide_eq_true_eq,Bool.not_eq_true',decide_eq_false_iff_not]at hp
  rw[if_pos hp.1,show(GShow.mk s.nodes s.ties s.horizon)=s from rfl,show(GState.mk x.now x.times x.values)=x from rfl,qU hs h (by omega) (by omega),Int.toNat_natCast]
  simp only
  rw[if_neg hp.2]
 ·unfold gh
  try simp only
  rw[if_neg (by omega)]
theorem AC {s:GShow}{x:GState}(hs:aR s)(h:StR s x):iN s x=some (fv s x):=by
 unfold iN fv
 rw[tQ s.ties _ (late s x) hs.ties]
 ·simp only[obnd]
  cases s.ties.any (late s x)
  ·rw[if_neg (by simp)]
   by_cases hh:s.horizon<x.now
   ·rw[if_pos hh,vW hs h,decide_eq_true hh];rfl
   ·rw[if_neg hh,decide_eq_false hh];rfl
  ·rw[if_pos rfl];rfl
 ·intro t ht
  unfold kP
  rw[EH hs h ht];rfl
theorem Di {s:GShow}{x:GState}(hs:aR s)(h:StR s x){t:GTie}(ht:t∈s.ties):lJ s x t=some (late s x t):=by
 have hT:=h.right.tie t ht
 have hln:=h.len
 have hn:=h.now
 have hh:=h.right.hor
 have b1:=h.all _ hT.f0 hT.f1
 have b2:=h.all _ hT.t0 hT.t1
 obtain⟨n1,e1,_,e2⟩:=lf hs h hT.f0 hT.f1
 obtain⟨n2,e3,_,e4⟩:=lf hs h hT.t0 hT.t1
 unfold lJ late
 rw[bJ hT.f0 (by have:=hT.f1;omega),bJ hT.t0 (by have:=hT.t1;omega)]
 simp only[obnd]
 by_cases hf:tm x.times t.from_=-1
 ·rw[if_pos hf,if_pos hf]
  cases t.free
  ·simp only[Bool.false_eq_true,if_false]
   by_cases h2:tm x.times t.to=-1
   ·rw[if_pos h2,if_pos h2]
   ·rw[if_neg h2,if_neg h2,e1,wr (by omega) (by omega)]
    simp only
    rw[e2]
    simp only
    by_cases h3:dn (jt s t.from_.toNat) x.values=1
    ·rw[if_pos h3,decide_eq_true h3];rfl
    ·rw[if_neg h3,decide_eq_false h3];rfl
  ·simp only[if_true]
 ·rw[if_neg hf,if_neg hf]
  by_cases h2:tm x.times t.to=-1
  ·rw[if_pos h2,if_pos h2]
   cases t.free
   ·simp only[Bool.false_eq_true,if_false]
    rw[e3,wr (by omega) (by omega)]
    simp only
    rw[e4]
    simp only
    by_cases h3:dn (jt s t.to.toNat) x.values=1
    ·rw[if_pos h3,decide_eq_true h3];rfl
    ·rw[if_neg h3,decide_eq_false h3];rfl
   ·simp only[if_true]
  ·rw[if_neg h2,if_neg h2,wr (by omega) (by omega),eE]
   simp only
   congr 1
   by_cases h3:tm x.times t.to - tm x.times t.from_<t.low
   ·rw[decide_eq_true h3,decide_eq_false (by omega)];rfl
   ·rw[decide_eq_false h3]
    by_cases h4:t.high<tm x.times t.to - tm x.times t.from_
    ·rw[decide_eq_true h4,decide_eq_false (by omega)];rfl
    ·rw[decide_eq_false h4,decide_eq_true (by omega)];rfl
theorem yY {s:GShow}{x:GState}(h:StR s x){i:Nat}(hi:i<s.nodes.length):qT s x i=!(decide (tm x.times (i:Int)=-1)&&decide (0≤dn (jt s i) x.values)):=by
 have:=UU h hi
 unfold qT
 congr 2
 by_cases h1:dn (jt s i) x.values=-1
 ·rw[decide_eq_true h1,decide_eq_false (by omega)];rfl
 ·rw[decide_eq_false h1,decide_eq_true (by omega)];rfl
theorem Dj {s:GShow}{x:GState}(hs:aR s)(h:StR s x):jF s x=some (lc s x):=by
 have hln:=h.len
 have h7:=h.right.nodes
 unfold jF lc
 have key:=bX (body:=gb s.nodes ((s.nodes.length:Nat):Int) x.now x.times x.values) s.nodes.length (fun i=>(i:Int)) (qT s x) (rT:=.inl ()) (rF:=.inr false) ?_ ?_ ?_
 ·rw[show((0:Nat):Int)=0 from rfl]at key
  rw[key,uu]
  simp only[obnd]
  split
  ·rename_i q he
   split at he
   ·rename_i hp;rw[decide_eq_true hp]
   ·cases he
  ·rename_i q he
   split at he
   ·cases he
   ·rename_i hp;cases he;rw[decide_eq_false hp]
 ·intro i hi hp
  obtain⟨b,e1,_,e2⟩:=lf hs h (k:=(i:Int)) (by omega) (by omega)
  rw[Int.toNat_natCast]at e2
  rw[yY h hi]at hp
  unfold gb
  try simp only
  rw[if_pos (by omega),e1]
  simp only[obnd]
  rw[dU (by omega)]
  simp only
  by_cases ht:tm x.times (i:Int)=-1
  ·rw[if_pos ht,e2]
   simp only
   rw[decide_eq_true ht]at hp
   rw[if_neg (by simpa using hp),wr (by omega) (by omega)];rfl
  ·rw[if_neg ht,wr (by omega) (by omega)];rfl
 ·intro i hi hp
  obtain⟨b,e1,_,e2⟩:=lf hs h (k:=(i:Int)) (by omega) (by omega)
  rw[Int.toNat_natCast]at e2
  rw[yY h hi]at hp
  simp only[Bool.not_eq_false',Bool.and_eq_true,decide_eq_true_eq]at hp
  unfold gb
  try simp only
  rw[if_pos (by omega),e1]
  simp only[obnd]
  rw[dU (by omega)]
  simp only
  rw[if_pos hp.1,e2]
  simp only
  rw[if_pos hp.2]
 ·unfold gb
  try simp only
  rw[if_neg (by omega)]
theorem xE {s:GShow}{x:GState}(hs:aR s)(h:StR s x):gV s x=some (fv s x):=by
 have hln:=h.len
 have h7:=h.right.nodes
 have h14:=h.right.ties
 unfold gV fv
 have key:=jv (body:=eg s.ties ((s.ties.length:Nat):Int) s.nodes s.horizon x.now x.times x.values) s.ties (late s x) (fun i=>(i:Int)) (rT:=.inl ()) (fun _=>.inr true) ?_ ?_ ?_
 ·rw[show((0:Nat):Int)=0 from rfl]at key
  have hany:s.ties.any (late s x)=(s.ties.findIdx? (late s x)).isSome:=(List.findIdx?_isSome).symm
  rw[key]
  cases hf:s.ties.findIdx? (late s x) with
  | some i=>rw[hany,hf];rfl
  | none=>
   rw[hany,hf]
   simp only[obnd,Option.isSome_none,Bool.false_or]
   by_cases hh:s.horizon<x.now
   ·have k2:=bX (body:=ca s.nodes ((s.nodes.length:Nat):Int) s.ties s.horizon x.now x.times x.values) s.nodes.length (fun i=>(i:Int)) (qT s x) (rT:=.inl ()) (rF:=.inr true) ?_ ?_ ?_
    ·rw[show((0:Nat):Int)=0 from rfl]at k2
     rw[k2,decide_eq_true hh]
     unfold lc
     rw[uu]
     simp only
     split
     ·rename_i q he
      split at he
      ·rename_i hp;rw[decide_eq_true hp];rfl
      ·cases he
     ·rename_i q he
      split at he
      ·cases he
      ·rename_i hp;cases he;rw[decide_eq_false hp];rfl
    ·intro i hi hp
     obtain⟨b,e1,_,e2⟩:=lf hs h (k:=(i:Int)) (by omega) (by omega)
     rw[Int.toNat_natCast]at e2
     rw[yY h hi]at hp
     unfold ca
     try simp only
     rw[if_pos (by omega),e1]
     simp only[obnd]
     rw[if_pos hh,dU (by omega)]
     simp only
     by_cases ht:tm x.times (i:Int)=-1
     ·rw[if_pos ht,e2]
      simp only
      rw[decide_eq_true ht]at hp
      rw[if_neg (by simpa using hp),wr (by omega) (by omega)];rfl
     ·rw[if_neg ht,wr (by omega) (by omega)];rfl
    ·intro i hi hp
     obtain⟨b,e1,_,e2⟩:=lf hs h (k:=(i:Int)) (by omega) (by omega)
     rw[Int.toNat_natCast]at e2
     rw[yY h hi]at hp
     simp only[Bool.not_eq_false',Bool.and_eq_true,decide_eq_true_eq]at hp
     unfold ca
     try simp only
     rw[if_pos (by omega),e1]
     simp only[obnd]
     rw[if_pos hh,dU (by omega)]
     simp only
     rw[if_pos hp.1,e2]
     simp only
     rw[if_pos hp.2]
    ·unfold ca
     try simp only
     rw[if_neg (by omega)]
   ·have k2:=aH (body:=ca s.nodes ((s.nodes.length:Nat):Int) s.ties s.horizon x.now x.times x.values) s.nodes.length (fun i=>(i:Int)) (r:=.inl ()) ?_ ?_
    ·rw[show((0:Nat):Int)=0 from rfl]at k2
     rw[k2,decide_eq_false hh];rfl
    ·intro i hi
     unfold ca
     try simp only
     rw[if_pos (by omega),an hi]
     simp only[obnd]
     rw[if_neg hh,wr (by omega) (by omega)];rfl
    ·unfold ca
     try simp only
     rw[if_neg (by omega)]
 ·intro i hi hp
  unfold eg
  try simp only
  rw[if_pos (by omega),an hi]
  simp only[obnd]
  rw[show(GShow.mk s.nodes s.ties s.horizon)=s from rfl,show(GState.mk x.now x.times x.values)=x from rfl,Di hs h (List.getElem_mem hi),hp,wr (by omega) (by omega)];rfl
 ·intro i hi hp
  unfold eg
  try simp only
  rw[if_pos (by omega),an hi]
  simp only[obnd]
  rw[show(GShow.mk s.nodes s.ties s.horizon)=s from rfl,show(GState.mk x.now x.times x.values)=x from rfl,Di hs h (List.getElem_mem hi),hp];rfl
 ·unfold eg
  try simp only
  rw[if_neg (by omega)]
end Go.Proofs.Qe
set_option maxRecDepth 100000
namespace Go.Proofs.Qe
open Go
def bitV (n:Int)(i:Nat):Int:=IntKind.wrap .i64 (1 - (IntKind.wrap .i64 (2*(IntKind.wrap .i64 (((BitVec.ofInt (IntKind.bits .i64) (Int.fdiv n (2^(min i 64))) &&& BitVec.ofInt (IntKind.bits .i64) 1).toNat:Nat):Int)))))
theorem QU (n:Int)(i:Nat):bitV n i=1∨bitV n i=-1:=by
 unfold bitV
 have h:∀ b:BitVec 64,(b &&& BitVec.ofInt 64 1).toNat=0∨(b &&& BitVec.ofInt 64 1).toNat=1:=by
  intro b
  rw[BitVec.toNat_and]
  have:(BitVec.ofInt 64 1).toNat=1:=by decide
  rw[this,Nat.and_one_is_mod]
  omega
 have:=h (BitVec.ofInt (IntKind.bits .i64) (Int.fdiv n (2^(min i 64))))
 rcases this with h|h
 ·left
  change IntKind.wrap .i64 (1 - (IntKind.wrap .i64 (2*(IntKind.wrap .i64 (((BitVec.ofInt 64 (Int.fdiv n (2^(min i 64))) &&& BitVec.ofInt 64 1).toNat:Nat):Int)))))=1
  change (BitVec.ofInt 64 (Int.fdiv n (2^(min i 64))) &&& BitVec.ofInt 64 1).toNat=0 at h
  rw[h];decide
 ·right
  change IntKind.wrap .i64 (1 - (IntKind.wrap .i64 (2*(IntKind.wrap .i64 (((BitVec.ofInt 64 (Int.fdiv n (2^(min i 64))) &&& BitVec.ofInt 64 1).toNat:Nat):Int)))))=-1
  change (BitVec.ofInt 64 (Int.fdiv n (2^(min i 64))) &&& BitVec.ofInt 64 1).toNat=1 at h
  rw[h];decide
def pn (m n:Nat):List Int:=(List.range m).map (bitV (n:Int))
def obsL (ps:List Int):List (List Int):=(List.range (2^ps.length)).map (pn ps.length)
theorem sN {ps vs:List Int}(h:vs∈obsL ps):vs.length=ps.length∧∀ v,v∈vs→v=1∨v=-1:=by
 unfold obsL at h
 rw[List.mem_map]at h
 obtain⟨n,_,rfl⟩:=h
 unfold pn
 refine⟨by simp,fun v hv=>?_⟩
 rw[List.mem_map]at hv
 obtain⟨i,_,rfl⟩:=hv
 exact QU _ _
theorem IU {ps:List Int}(h:ps.length≤7):(obsL ps).length≤128:=by
 unfold obsL
 simpa using pm h
theorem AX {ps:List Int}(h:Asc ps){i:Nat}(hi:i<ps.length)(h0:0<i):ps.getD (i - 1) 0<ps.getD i 0:=by
 unfold Asc at h
 rw[List.pairwise_iff_getElem]at h
 have:=h (i - 1) i (by omega) hi (by omega)
 rw[List.getD_eq_getElem?_getD,List.getD_eq_getElem?_getD,List.getElem?_eq_getElem hi,List.getElem?_eq_getElem (show i - 1<ps.length by omega)]
 exact this
theorem wG {ps:List Int}(ha:Asc ps)(hp:∀ p,p∈ps→1≤p∧p≤3)(hl:ps.length≤3):fm ps=some (obsL ps):=by
 have pb:∀ i,i<ps.length→1≤ps.getD i 0∧ps.getD i 0≤3:=by
  intro i hi
  rw[List.getD_eq_getElem?_getD,List.getElem?_eq_getElem hi]
  exact hp _ (List.getElem_mem hi)
 have hpow:=pm (m:=ps.length) (by omega)
 unfold fm
 have k1:ak (dv ps ((ps.length:Nat):Int)) ((0:Nat):Int)=some (.inl ()):=by
  refine aH ps.length (fun i=>(i:Int)) ?_ ?_
  ·intro i hi
   have hb:=pb i hi
   unfold dv
   try simp only
   rw[if_pos (by omega),bB hi]
   simp only[obnd]
   rw[if_neg (by omega),if_neg (by omega),wr (x:=(i:Int)+1) (by omega) (by omega)]
   by_cases h0:0<i
   ·rw[if_pos (by omega),wr (by omega) (by omega),show(i:Int) - 1=((i - 1:Nat):Int) by omega,bB (by omega)]
    simp only
    have:=AX ha hi h0
    rw[if_neg (by omega)];rfl
   ·rw[if_neg (by omega)];rfl
  ·unfold dv
   try simp only
   rw[if_neg (by omega)]
 have k4:∀ (n:Nat) (out:List (List Int)),ak (dw ps (n:Int) ((ps.length:Nat):Int) out) (((0:Nat):Int),(List.range 0).map (bitV (n:Int)))=some (pn ps.length n):=by
  intro n out
  unfold pn
  refine aH ps.length (fun i=>((i:Int),(List.range i).map (bitV (n:Int)))) ?_ ?_
  ·intro i hi
   unfold dw
   try simp only
   rw[if_pos (by omega),ah (by omega),ah (by simp;omega),ah (by simp;omega),wr (x:=(i:Int)+1) (by omega) (by omega),cI,Int.toNat_natCast];rfl
  ·unfold dw
   try simp only
   rw[if_neg (by omega)]
 have k5:ak (dx ps) (((0:Nat):Int),(List.range 0).map (pn ps.length))=some (obsL ps):=by
  unfold obsL
  refine aH (2^ps.length) (fun i=>((i:Int),(List.range i).map (pn ps.length))) ?_ ?_
  ·intro i hi
   have k:=k4 i ((List.range i).map (pn ps.length))
   simp only[List.range_zero,List.map_nil,Int.natCast_zero]at k
   unfold dx
   try simp only
   rw[ah (by omega),lR (by omega),if_pos (by omega),k]
   simp only[obnd]
   rw[ah (by simp;omega),ah (by simp;omega),wr (x:=(i:Int)+1) (by omega) (by omega),cI];rfl
  ·unfold dx
   try simp only
   rw[ah (by omega),lR (by omega),if_neg (by omega)]
 simp only[Int.natCast_zero]at k1
 simp only[List.range_zero,List.map_nil,Int.natCast_zero]at k5
 rw[k1]
 simp only[obnd]
 rw[k5]
theorem wH {ps:List Int}(ha:Asc ps)(hp:∀ p,p∈ps→1≤p∧p≤3)(hl:ps.length≤3):fj ps=some (obsL ps):=by
 have pb:∀ i,i<ps.length→1≤ps.getD i 0∧ps.getD i 0≤3:=by
  intro i hi
  rw[List.getD_eq_getElem?_getD,List.getElem?_eq_getElem hi]
  exact hp _ (List.getElem_mem hi)
 have hpow:=pm (m:=ps.length) (by omega)
 unfold fj
 have k1:ak (dq ps ((ps.length:Nat):Int)) ((0:Nat):Int)=some (.inl ()):=by
  refine aH ps.length (fun i=>(i:Int)) ?_ ?_
  ·intro i hi
   have hb:=pb i hi
   unfold dq
   try simp only
   rw[if_pos (by omega),bB hi]
   simp only[obnd]
   rw[eE,decide_eq_true (show(1:Int)≤ps.getD i 0∧ps.getD i 0≤3 by omega),wr (x:=(i:Int)+1) (by omega) (by omega)]
   simp only[if_true]
   by_cases h0:0<i
   ·rw[if_pos (by omega),wr (by omega) (by omega),show(i:Int) - 1=((i - 1:Nat):Int) by omega,bB (by omega)]
    simp only
    have:=AX ha hi h0
    rw[if_neg (by omega)];rfl
   ·rw[if_neg (by omega)];rfl
  ·unfold dq
   try simp only
   rw[if_neg (by omega)]
 have k4:∀ (n:Nat) (out:List (List Int)),ak (dr ps (n:Int) ((ps.length:Nat):Int) out) (((0:Nat):Int),(List.range 0).map (bitV (n:Int)))=some (pn ps.length n):=by
  intro n out
  unfold pn
  refine aH ps.length (fun i=>((i:Int),(List.range i).map (bitV (n:Int)))) ?_ ?_
  ·intro i hi
   unfold dr
   try simp only
   rw[if_pos (by omega),wru (by omega),ah (by omega),ah (by simp;omega),ah (by simp;omega),wr (x:=(i:Int)+1) (by omega) (by omega),cI,Int.toNat_natCast];rfl
  ·unfold dr
   try simp only
   rw[if_neg (by omega)]
 have k5:ak (dt ps) (((0:Nat):Int),(List.range 0).map (pn ps.length))=some (obsL ps):=by
  unfold obsL
  refine aH (2^ps.length) (fun i=>((i:Int),(List.range i).map (pn ps.length))) ?_ ?_
  ·intro i hi
   have k:=k4 i ((List.range i).map (pn ps.length))
   simp only[List.range_zero,List.map_nil,Int.natCast_zero]at k
   unfold dt
   try simp only
   rw[wru (by omega),ah (by omega),Int.toNat_natCast,lR (by omega),if_pos (by omega),k]
   simp only[obnd]
   rw[ah (by simp;omega),ah (by simp;omega),wr (x:=(i:Int)+1) (by omega) (by omega),cI];rfl
  ·unfold dt
   try simp only
   rw[wru (by omega),ah (by omega),Int.toNat_natCast,lR (by omega),if_neg (by omega)]
 simp only[Int.natCast_zero]at k1
 simp only[List.range_zero,List.map_nil,Int.natCast_zero]at k5
 rw[k1]
 simp only[obnd]
 rw[k5]
theorem wr8 {x:Int}(h1:0≤x)(h2:x≤255):IntKind.wrap .u8 x=x:=by
 unfold IntKind.wrap
 simp[IntKind.bits,IntKind.signed]
 omega
def keyL (x:GState):List Int:=[x.now]++x.times.map (fun n=>n+1)++x.values.map (fun n=>n+1)
def keyS (x:GState):ByteArray:=pd (keyL x)
theorem Mq (ns:List Int):(pd ns).data.toList=ns.map (fun n=>UInt8.ofNat n.toNat):=by
 unfold pd
 have key:∀ (ns:List Int) (a:ByteArray),(ns.foldl (fun r n=>r.push (UInt8.ofNat n.toNat)) a).data.toList=a.data.toList++ns.map (fun n=>UInt8.ofNat n.toNat):=by
  intro ns
  induction ns with
  | nil=>intro a;simp
  | cons n ns ih=>
   intro a
   simp only[List.foldl_cons,ih,List.map_cons]
   simp[ByteArray.push]
 rw[key]
 rfl
theorem QV {xs ys:List Int}(hx:∀ n,n∈xs→0≤n∧n≤255)(hy:∀ n,n∈ys→0≤n∧n≤255)(h:xs.map (fun n=>UInt8.ofNat n.toNat)=ys.map (fun n=>UInt8.ofNat n.toNat)):xs=ys:=by
 induction xs generalizing ys with
 | nil=>cases ys with
  | nil=>rfl
  | cons y ys=>simp at h
 | cons x xs ih=>cases ys with
  | nil=>simp at h
  | cons y ys=>
   simp only[List.map_cons,List.cons.injEq]at h
   have h1:=hx x (by simp)
   have h2:=hy y (by simp)
   have h3:=congrArg UInt8.toNat h.1
   simp only[UInt8.toNat_ofNat']at h3
   have:x=y:=by omega
   rw[this,ih (fun n hn=>hx n (by simp[hn])) (fun n hn=>hy n (by simp[hn])) h.2]
theorem QW {ts:List Int}{n:Int}(h:n∈ts):∃ i,i<ts.length∧n=tm ts (i:Int):=by
 obtain⟨i,hi,rfl⟩:=List.getElem_of_mem h
 refine⟨i,hi,?_⟩
 unfold tm
 rw[Int.toNat_natCast,List.getElem?_eq_getElem hi];rfl
theorem IV {s:GShow}{x:GState}(h:StR s x):(∀ n,n∈x.times→-1≤n∧n≤11)∧(∀ n,n∈x.values→-1≤n∧n≤1)∧∀ n,n∈keyL x→0≤n∧n≤255:=by
 have hn:=h.now
 have hh:=h.right.hor
 have ht:∀ n,n∈x.times→-1≤n∧n≤11:=by
  intro n hn
  obtain⟨i,hi,rfl⟩:=QW hn
  exact h.all _ (by omega) (by have:=h.len;omega)
 have hv:=(aV h.val).2
 refine⟨ht,hv,?_⟩
 intro n hm
 unfold keyL at hm
 simp only[List.mem_append,List.mem_map,List.mem_singleton]at hm
 rcases hm with (rfl|⟨m,hm,rfl⟩)|⟨m,hm,rfl⟩
 ·omega
 ·have:=ht m hm;omega
 ·have:=hv m hm;omega
theorem IW {xs ys:List Int}(h:xs.map (fun n=>n+1)=ys.map (fun n=>n+1)):xs=ys:=by
 have:=congrArg (fun l=>l.map (fun n:Int=>n - 1)) h
 simpa [Function.comp_def] using this
theorem Pl {s:GShow}{x y:GState}(hx:StR s x)(hy:StR s y)(h:keyS x=keyS y):x=y:=by
 have h1:=congrArg (fun b=>b.data.toList) h
 simp only[keyS,Mq]at h1
 have h2:=QV (IV hx).2.2 (IV hy).2.2 h1
 unfold keyL at h2
 have hlen:x.times.length=y.times.length:=by rw[hx.len,hy.len]
 have e1:=List.append_inj h2 (by simp[hlen])
 obtain⟨e2,e3⟩:=e1
 simp only[List.singleton_append,List.cons.injEq]at e2
 have e4:=IW e2.2
 have e5:=IW e3
 obtain⟨a,b,c⟩:=x
 obtain⟨a',b',c'⟩:=y
 simp only at e2 e4 e5
 rw[e2.1,e4,e5]
theorem UV {s:GShow}{x:GState}(h:StR s x):qM x=some (keyS x):=by
 obtain⟨ht,hv,_⟩:=IV h
 have hn:=h.now
 have hh:=h.right.hor
 have hln:=h.len
 have h7:=h.right.nodes
 have h3:=(aV h.val).1
 unfold qM
 have k1:ak (mB x.times ((x.times.length:Nat):Int) x.now x.values) (((0:Nat):Int),[x.now]++(x.times.take 0).map (fun n=>n+1))=some ([x.now]++x.times.map (fun n=>n+1)):=by
  refine aH x.times.length (fun i=>((i:Int),[x.now]++(x.times.take i).map (fun n=>n+1))) ?_ ?_
  ·intro i hi
   have hb:=ht _ (List.getElem_mem hi)
   unfold mB
   try simp only
   rw[if_pos (by omega),an hi]
   simp only[obnd]
   rw[ah (by simp;omega),ah (by simp;omega),wr (x:=(i:Int)+1) (by omega) (by omega),wr (x:=x.times[i]+1) (by omega) (by omega),wr8 (by omega) (by omega),List.take_succ_eq_append_getElem hi,List.map_append,← List.append_assoc];rfl
  ·unfold mB
   try simp only
   rw[if_neg (by omega),List.take_length]
 have k2:ak (mC x.values ((x.values.length:Nat):Int)) (((0:Nat):Int),[x.now]++x.times.map (fun n=>n+1)++(x.values.take 0).map (fun n=>n+1))=some (keyL x):=by
  unfold keyL
  refine aH x.values.length (fun i=>((i:Int),[x.now]++x.times.map (fun n=>n+1)++(x.values.take i).map (fun n=>n+1))) ?_ ?_
  ·intro i hi
   have hb:=hv _ (List.getElem_mem hi)
   unfold mC
   try simp only
   rw[if_pos (by omega),an hi]
   simp only[obnd]
   rw[ah (by simp;omega),ah (by simp;omega),wr (x:=(i:Int)+1) (by omega) (by omega),wr (x:=x.values[i]+1) (by omega) (by omega),wr8 (by omega) (by omega),List.take_succ_eq_append_getElem hi,List.map_append,← List.append_assoc];rfl
  ·unfold mC
   try simp only
   rw[if_neg (by omega),List.take_length]
 simp only[List.take_zero,List.map_nil,Int.natCast_zero,List.append_nil]at k1 k2
 rw[wr8 (by omega) (by omega),k1]
 simp only[obnd]
 rw[k2];rfl
end Go.Proofs.Qe
set_option maxRecDepth 100000
namespace Go.Proofs.Qe
open Go
def bK (r:GState→Bool)(s:GShow)(y:GState)(nodes:List Int):Bool:=(obsL (ay s nodes)).all (fun vs=>r (obsX (decX y nodes) (ay s nodes) vs))
def anyB (r:GState→Bool)(s:GShow)(y:GState):Bool:=(decL s y).any (bK r s y)
noncomputable def lS (r:GState→Bool)(s:GShow)(x:GState):Bool:=
 if fv s x=true then false else if lc s x=true then true else (bm s x).all (fun ties=>anyB r s (endX s x ties))
noncomputable def winF:Nat→GShow→GState→Bool
 | 0,_,_=>false
 | n+1,s,x=>lS (winF n s) s x
noncomputable def win (s:GShow)(x:GState):Bool:=winF 12 s x
theorem AD {r r':GState→Bool}{s:GShow}{y:GState}(h:MomR s y){nodes:List Int}(hn:nodes∈decL s y)(hr:∀ z,aB s z=true→z.now=y.now+1→r z=r' z):bK r s y nodes=bK r' s y nodes:=by
 obtain⟨_,_,hm⟩:=dc h.right hn
 unfold bK
 rw[Bool.eq_iff_iff,List.all_eq_true,List.all_eq_true]
 have key:∀ vs,vs∈obsL (ay s nodes)→r (obsX (decX y nodes) (ay s nodes) vs)=r' (obsX (decX y nodes) (ay s nodes) vs):=by
  intro vs hv
  obtain⟨h1,h2⟩:=sN hv
  exact hr _ (vi h hm h1 h2) rfl
 exact⟨fun h vs hv=>by rw[← key vs hv];exact h vs hv,fun h vs hv=>by rw[key vs hv];exact h vs hv⟩
theorem Mr {r r':GState→Bool}{s:GShow}{y:GState}(h:MomR s y)(hr:∀ z,aB s z=true→z.now=y.now+1→r z=r' z):anyB r s y=anyB r' s y:=by
 unfold anyB
 rw[Bool.eq_iff_iff,List.any_eq_true,List.any_eq_true]
 exact⟨fun ⟨nd,h1,h2⟩=>⟨nd,h1,by rw[← AD h h1 hr];exact h2⟩,fun ⟨nd,h1,h2⟩=>⟨nd,h1,by rw[AD h h1 hr];exact h2⟩⟩
theorem lT {s:GShow}{x:GState}(hx:aB s x=true){ties:List Int}(ht:ties∈bm s x):MomR s (endX s x ties):=by
 obtain⟨h1,h2,h3⟩:=ia (bl hx).ok ht
 exact uo (vT hx h1 h3)
theorem Gj {r r':GState→Bool}{s:GShow}{x:GState}(hx:aB s x=true)(hr:∀ z,aB s z=true→z.now=x.now+1→r z=r' z):lS r s x=lS r' s x:=by
 unfold lS
 cases fv s x
 ·cases lc s x
  ·simp only[Bool.false_eq_true,if_false]
   rw[Bool.eq_iff_iff,List.all_eq_true,List.all_eq_true]
   have key:∀ ties,ties∈bm s x→anyB r s (endX s x ties)=anyB r' s (endX s x ties):=fun ties ht=>Mr (lT hx ht) hr
   exact⟨fun h t ht=>by rw[← key t ht];exact h t ht,fun h t ht=>by rw[key t ht];exact h t ht⟩
  ·rfl
 ·rfl
theorem AE {s:GShow}:∀ (n:Nat) (x:GState),aB s x=true→12≤(n:Int)+x.now→winF (n+1) s x=winF n s x
 | 0,x,hx,h=>by
  have:=(bl hx).now
  have:=(bl hx).right.hor
  omega
 | n+1,x,hx,h=>by
  show lS (winF (n+1) s) s x=lS (winF n s) s x
  exact Gj hx (fun z hz hn=>AE n z hz (by omega))
theorem QX {s:GShow}{x:GState}(hx:aB s x=true){n:Nat}(h:12≤(n:Int)+x.now):winF n s x=win s x:=by
 have hn:=(bl hx).now
 unfold win
 have up:∀ k m:Nat,12≤(m:Int)+x.now→winF (m+k) s x=winF m s x:=by
  intro k
  induction k with
  | zero=>intro m _;rfl
  | succ k ih=>
   intro m hm
   rw[← Nat.add_assoc,AE (m+k) x hx (by omega),ih m hm]
 rcases Nat.le_total n 12 with h1|h1
 ·have:=up (12 - n) n h
  rw[show n+(12 - n)=12 by omega]at this
  exact this.symm
 ·have:=up (n - 12) 12 (by omega)
  rwa [show 12+(n - 12)=n by omega]at this
theorem IX {s:GShow}{x:GState}(hx:aB s x=true):win s x=lS (win s) s x:=by
 have h1:win s x=winF 13 s x:=(QX hx (by have:=(bl hx).now;omega)).symm
 rw[h1]
 show lS (winF 12 s) s x=_
 rfl
theorem IY {α β ρ:Type}(xs:List α)(q:α→Bool)(I:β→Prop)(body:Int × β→Option (Step (Int × β) ρ))(rT rF:β→ρ)
  (h1:∀ i (hi:i<xs.length) k,I k→∃ k',I k'∧body ((i:Int),k)=some (if q xs[i]=true then .next ((i:Int)+1,k') else .done (rF k')))
  (h2:∀ k,I k→body ((xs.length:Int),k)=some (.done (rT k))) (k:β) (hk:I k) :
  ∃ k',I k'∧ak body (0,k)=some (if xs.all q=true then rT k' else rF k'):=by
 have key:=bo (body:=body) (s0:=((0:Int),k)) xs.length (fun i st=>st.1=(i:Int)∧I st.2∧∀ j (hj:j<xs.length),j<i→q xs[j]=true)
  (fun r=>∃ k',I k'∧r=(if xs.all q=true then rT k' else rF k')) ⟨rfl,hk,fun j _ h=>absurd h (by omega)⟩ ?_ ?_
 ·obtain⟨r,hr,hp⟩:=key
  obtain⟨k',h3,rfl⟩:=hp
  exact⟨k',h3,hr⟩
 ·rintro i ⟨a,k⟩ hi ⟨rfl,hI,hall⟩
  obtain⟨k',hk',hb⟩:=h1 i hi k hI
  cases hq:q xs[i]
  ·rw[hq,if_neg (by simp)]at hb
   refine .inr ⟨_,hb,k',hk',?_⟩
   rw[if_neg]
   intro hA
   rw[List.all_eq_true]at hA
   have:=hA _ (List.getElem_mem hi)
   rw[hq]at this;cases this
  ·rw[hq,if_pos rfl]at hb
   refine .inl ⟨_,hb,rfl,hk',fun j hj hlt=>?_⟩
   rcases Nat.lt_or_ge j i with h|h
   ·exact hall j hj h
   ·obtain rfl:j=i:=by omega
    exact hq
 ·rintro⟨a,k⟩ ⟨rfl,hI,hall⟩
  refine⟨_,h2 k hI,k,hI,?_⟩
  rw[if_pos]
  rw[List.all_eq_true]
  intro x hx
  obtain⟨j,hj,rfl⟩:=List.getElem_of_mem hx
  exact hall j hj hj
theorem NN {α β ρ:Type}(xs:List α)(q:α→Bool)(I:β→Prop)(body:Int × β→Option (Step (Int × β) ρ))(rT:β→ρ)(rF:α→β→ρ)
  (h1:∀ i (hi:i<xs.length) k,I k→∃ k',I k'∧body ((i:Int),k)=some (if q xs[i]=true then .done (rF xs[i] k') else .next ((i:Int)+1,k')))
  (h2:∀ k,I k→body ((xs.length:Int),k)=some (.done (rT k))) (k:β) (hk:I k) :
  ∃ k',I k'∧ak body (0,k)=some (match xs.find? q with|some a=>rF a k'|none=>rT k'):=by
 have key:=bo (body:=body) (s0:=((0:Int),k)) xs.length (fun i st=>st.1=(i:Int)∧I st.2∧∀ j (hj:j<xs.length),j<i→q xs[j]=false)
  (fun r=>∃ k',I k'∧r=(match xs.find? q with|some a=>rF a k'|none=>rT k')) ⟨rfl,hk,fun j _ h=>absurd h (by omega)⟩ ?_ ?_
 ·obtain⟨r,hr,hp⟩:=key
  obtain⟨k',h3,rfl⟩:=hp
  exact⟨k',h3,hr⟩
 ·rintro i ⟨a,k⟩ hi ⟨rfl,hI,hall⟩
  obtain⟨k',hk',hb⟩:=h1 i hi k hI
  cases hq:q xs[i]
  ·rw[hq,if_neg (by simp)]at hb
   refine .inl ⟨_,hb,rfl,hk',fun j hj hlt=>?_⟩
   rcases Nat.lt_or_ge j i with h|h
   ·exact hall j hj h
   ·obtain rfl:j=i:=by omega
    exact hq
  ·rw[hq,if_pos rfl]at hb
   refine .inr ⟨_,hb,k',hk',?_⟩
   have:xs.find? q=some xs[i]:=by
    rw[List.find?_eq_some_iff_getElem]
    exact⟨hq,i,hi,rfl,fun j hj=>by simp[hall j (by omega) hj]⟩
   rw[this]
 ·rintro⟨a,k⟩ ⟨rfl,hI,hall⟩
  refine⟨_,h2 k hI,k,hI,?_⟩
  have:xs.find? q=none:=by
   rw[List.find?_eq_none]
   intro x hx
   obtain⟨j,hj,rfl⟩:=List.getElem_of_mem hx
   simp[hall j hj hj]
  rw[this]
def cn (s:GShow)(k:List (ByteArray × Bool)):Prop:=∀ x b,aB s x=true→ph (keyS x) k=some b→b=win s x
theorem FO (s:GShow):cn s []:=fun x b _ h=>by cases h
theorem NO (a c:ByteArray)(b:Bool):∀ k,ph a (setB c b k)=if a == c then some b else ph a k:=by
 intro k
 induction k with
 | nil=>simp only[setB,ph]
 | cons p k ih=>
  simp only[setB,ph]
  by_cases h:(c == p.1)=true
  ·rw[if_pos h]
   simp only[ph]
   obtain rfl:=(Go.MapKept.bytes_beq _ _).1 h
   split <;> rfl
  ·rw[if_neg h]
   simp only[ph,ih]
   by_cases h2:(a == p.1)=true
   ·rw[if_pos h2,if_pos h2]
    rw[if_neg]
    intro h3
    obtain rfl:=(Go.MapKept.bytes_beq _ _).1 h3
    exact h h2
   ·rw[if_neg h2,if_neg h2]
theorem NP {s:GShow}{k:List (ByteArray × Bool)}(h:cn s k){x:GState}(hx:aB s x=true):cn s (setB (keyS x) (win s x) k):=by
 intro y b hy hf
 rw[NO]at hf
 split at hf
 ·rename_i he
  cases hf
  have:=Pl (bl hy) (bl hx) ((Go.MapKept.bytes_beq _ _).1 he)
  rw[this]
 ·exact h y b hy hf
abbrev RecT:=GShow→(List (ByteArray × Bool))→GState→Option (Bool × (List (ByteArray × Bool)))
def Dk (s:GShow)(t:Int)(rec:RecT):Prop:=∀ known x,aB s x=true→x.now=t→cn s known→∃ known',cn s known'∧rec s known x=some (win s x,known')
theorem AF {s:GShow}{rec:RecT}{y:GState}(hr:Dk s (y.now+1) rec)(h:MomR s y){nodes:List Int}(hn:nodes∈decL s y){known:List (ByteArray × Bool)}(hk:cn s known) :
  ∃ known',cn s known'∧dL rec s known y nodes=some (bK (win s) s y nodes,known'):=by
 obtain⟨ha,hl7,hm⟩:=dc h.right hn
 have hv:=(aV h.val).1
 have h7:=h.right.nodes
 have hln:=h.len
 have hnow:=h.now
 have hh:=h.right.hor
 have hp:∀ p,p∈ay s nodes→1≤p∧p≤3:=fun p hp=>⟨(bC hp).1,(bC hp).2.1⟩
 have hl3:=nG s nodes
 have ho:=IU (ps:=ay s nodes) (by omega)
 unfold dL
 rw[vU h ha hl7 hm]
 simp only[obnd]
 rw[wG (uq s nodes) hp hl3]
 simp only
 have key:=IY (obsL (ay s nodes)) (fun vs=>win s (obsX (decX y nodes) (ay s nodes) vs)) (cn s)
  (dl rec (((obsL (ay s nodes)).length:Nat):Int) (decX y nodes).now (decX y nodes).times (decX y nodes).values (ay s nodes) (obsL (ay s nodes)) s.nodes s.ties s.horizon)
  (fun k=>.inl k) (fun k=>.inr (false,k)) ?_ ?_ known hk
 ·obtain⟨k',hk',e⟩:=key
  rw[e]
  refine⟨k',hk',?_⟩
  unfold bK
  cases(obsL (ay s nodes)).all (fun vs=>win s (obsX (decX y nodes) (ay s nodes) vs)) <;> rfl
 ·intro i hi k hk
  obtain⟨h1,h2⟩:=sN (List.getElem_mem hi)
  have hob:=vi h hm h1 h2
  obtain⟨k',hk',e⟩:=hr k _ hob rfl hk
  refine⟨k',hk',?_⟩
  unfold dl
  try simp only
  rw[if_pos (by omega),an hi]
  simp only[obnd]
  rw[show(GState.mk (decX y nodes).now (decX y nodes).times (decX y nodes).values)=decX y nodes from rfl,(mI (decX y nodes) (ay s nodes) _ (by show 0≤y.now∧y.now≤1000;omega) (by show(bf _ _ _ _).length≤_;rw[cu];omega) hv hp h1 (by omega)).1]
  simp only
  rw[show(GShow.mk s.nodes s.ties s.horizon)=s from rfl,e]
  simp only
  rw[wr (by omega) (by omega)]
  cases win s (obsX (decX y nodes) (ay s nodes) (obsL (ay s nodes))[i]) <;> rfl
 ·intro k _
  unfold dl
  try simp only
  rw[if_neg (by omega)]
theorem Dl {s:GShow}(hs:aR s){rec:RecT}{y:GState}(hr:Dk s (y.now+1) rec)(h:MomR s y){known:List (ByteArray × Bool)}(hk:cn s known) :
  ∃ known',cn s known'∧ei rec s known y=some (match (decL s y).find? (bK (win s) s y) with|some nd=>(nd,true,known')|none=>([],false,known')):=by
 have hl:=rA h.right y
 unfold ei
 rw[tL hs h]
 simp only[obnd]
 have key:=NN (decL s y) (bK (win s) s y) (cn s) (fI rec (((decL s y).length:Nat):Int) y.now y.times y.values (decL s y) s.nodes s.ties s.horizon)
  (fun k=>.inl k) (fun nd k=>.inr (nd,true,k)) ?_ ?_ known hk
 ·obtain⟨k',hk',e⟩:=key
  rw[e]
  refine⟨k',hk',?_⟩
  cases(decL s y).find? (bK (win s) s y) <;> rfl
 ·intro i hi k hk
  obtain⟨k',hk',e⟩:=AF hr h (List.getElem_mem hi) hk
  refine⟨k',hk',?_⟩
  unfold fI
  try simp only
  rw[if_pos (by omega),an hi]
  simp only[obnd]
  rw[show(GShow.mk s.nodes s.ties s.horizon)=s from rfl,show(GState.mk y.now y.times y.values)=y from rfl,e]
  simp only
  rw[wr (by omega) (by omega)]
  cases bK (win s) s y (decL s y)[i] <;> rfl
 ·intro k _
  unfold fI
  try simp only
  rw[if_neg (by omega)]
theorem NQ {s:GShow}(hs:aR s){rec:RecT}{x:GState}(hx:aB s x=true)(hr:Dk s (x.now+1) rec){known:List (ByteArray × Bool)}(hk:cn s known) :
  ∃ known',cn s known'∧ix rec s known x=some (win s x,known'):=by
 have hR:=bl hx
 have hv:=(aV hR.val).1
 have hel:=pX (x:=x) hR.ok
 unfold ix
 rw[AC hs hR]
 simp only[obnd]
 have hw:=IX hx
 unfold lS at hw
 cases hb:fv s x
 ·rw[hb]at hw
  simp only[Bool.false_eq_true,if_false]at hw ⊢
  rw[vW hs hR]
  simp only
  cases ho:lc s x
  ·rw[ho]at hw
   simp only[Bool.false_eq_true,if_false]at hw ⊢
   rw[UV hR]
   simp only
   cases hf:ph (keyS x) known with
   | some b=>exact⟨known,hk,by rw[← hk x b hx hf];rfl⟩
   | none=>
    simp only[LC]
    rw[vR hx]
    simp only
    have key:=IY (bm s x) (fun ties=>anyB (win s) s (endX s x ties)) (cn s) (gE rec (keyS x) (((bm s x).length:Nat):Int) x.now x.times x.values (bm s x) s.nodes s.ties s.horizon)
     (fun k=>(true,k)) (fun k=>(false,k)) ?_ ?_ known hk
    ·obtain⟨k',hk',e⟩:=key
     rw[e]
     refine⟨_,NP hk' hx,?_⟩
     rw[hw]
     cases(bm s x).all (fun ties=>anyB (win s) s (endX s x ties)) <;> rfl
    ·intro i hi k hk
     have hmem:=List.getElem_mem hi
     obtain⟨h1,h2,h3⟩:=ia hR.ok hmem
     have hM:=lT hx hmem
     obtain⟨k',hk',e⟩:=Dl hs (y:=endX s x (bm s x)[i]) hr hM hk
     refine⟨k',hk',?_⟩
     unfold gE
     try simp only
     rw[if_pos (by omega),an hi]
     simp only[obnd]
     rw[show(GShow.mk s.nodes s.ties s.horizon)=s from rfl,show(GState.mk x.now x.times x.values)=x from rfl,AW hx (by omega) (by omega) h3]
     simp only
     rw[e]
     have hany:anyB (win s) s (endX s x (bm s x)[i])=((decL s (endX s x (bm s x)[i])).find? (bK (win s) s (endX s x (bm s x)[i]))).isSome:=by
      unfold anyB
      rw[Bool.eq_iff_iff,List.find?_isSome,List.any_eq_true]
     rw[hany,wr (by omega) (by omega)]
     cases(decL s (endX s x (bm s x)[i])).find? (bK (win s) s (endX s x (bm s x)[i])) <;> rfl
    ·intro k _
     unfold gE
     try simp only
     rw[if_neg (by omega)]
  ·rw[ho]at hw
   exact⟨known,hk,by rw[hw];rfl⟩
 ·rw[hb]at hw
  exact⟨known,hk,by rw[hw];rfl⟩
theorem FP {s:GShow}(hs:aR s):∀ (n:Nat) (t:Int),12≤(n:Int)+t→Dk s t (iO n)
 | 0,t,h=>by
  intro known x hx ht hk
  have:=(bl hx).now
  have:=(bl hx).right.hor
  omega
 | n+1,t,h=>by
  intro known x hx ht hk
  exact NQ hs hx (by rw[ht];exact FP hs n (t+1) (by omega)) hk
theorem KZ {s:GShow}(hs:aR s)(t:Int)(h:0≤t):Dk s t m_impl_game_wins:=FP hs 40 t (by omega)
end Go.Proofs.Qe
set_option maxRecDepth 100000
namespace Go.Proofs.Qe
open Go
structure Ext (s:GShow) (x z:GState):Prop where
 t1:∀ i:Int,0≤i→i<s.nodes.length→tm x.times i≠-1→tm z.times i=tm x.times i
 t2:∀ i:Int,0≤i→i<s.nodes.length→tm x.times i=-1→tm z.times i=-1∨(x.now≤tm z.times i∧tm z.times i≤s.horizon)
 v:∀ k:Int,0≤k→tm x.values k≠0→tm z.values k=tm x.values k
theorem Pm {s:GShow}{x:GState}(hx:aB s x=true)(hh:x.now≤s.horizon){ties:List Int}(ht:ties∈bm s x){nodes:List Int}(hn:nodes∈decL s (endX s x ties))(vs:List Int) :
  Ext s x (obsX (decX (endX s x ties) nodes) (ay s nodes) vs):=by
 have hR:=bl hx
 obtain⟨_,_,ha⟩:=ia hR.ok ht
 have hM:=lT hx ht
 obtain⟨_,_,hm⟩:=dc hM.right hn
 have hlen:(endX s x ties).times.length=s.nodes.length:=hM.len
 have e1:∀ i:Int,0≤i→tm (bf (fun k=>k) (endX s x ties).now nodes (endX s x ties).times) i=if i∈nodes then x.now else tm (endX s x ties).times i:=by
  intro i hi
  rw[um _ _ _ _ _ hi (fun k hk=>by obtain⟨j,hj,e,_,_⟩:=mZ (hm k hk);omega),List.map_id']
  rfl
 have hopen:∀ i:Int,0≤i→i∈nodes→tm (endX s x ties).times i=-1:=by
  intro i hi hmem
  obtain⟨j,hj,rfl,_,h⟩:=mZ (hm i hmem)
  exact h
 have hto:∀ i:Int,0≤i→i∈ties.map (fun k=>(bH s k).to)→tm x.times i=-1:=by
  intro i hi hmem
  rw[List.mem_map]at hmem
  obtain⟨k,hk,rfl⟩:=hmem
  obtain⟨j,hj,rfl,_,_,h⟩:=tG (ha _ hk)
  rwa [iT hj]
 have eT:∀ i:Int,0≤i→tm (obsX (decX (endX s x ties) nodes) (ay s nodes) vs).times i=if i∈nodes then x.now else if i∈ties.map (fun k=>(bH s k).to) then x.now else tm x.times i:=by
  intro i hi
  show tm (bf (fun k=>k) (endX s x ties).now nodes (endX s x ties).times) i=_
  rw[e1 i hi,yW hx ha hi]
 refine⟨?_,?_,?_⟩
 ·intro i hi hl hne
  rw[eT i hi]
  by_cases h2:i∈ties.map (fun k=>(bH s k).to)
  ·exact absurd (hto i hi h2) hne
  ·rw[if_neg h2]
   by_cases h1:i∈nodes
   ·have:=hopen i hi h1
    rw[yW hx ha hi,if_neg h2]at this
    exact absurd this hne
   ·rw[if_neg h1]
 ·intro i hi hl he
  rw[eT i hi]
  split
  ·right;omega
  ·split
   ·right;omega
   ·left;exact he
 ·intro k hk hne
  show tm (setV (ay s nodes) vs x.values (ay s nodes).length) k=_
  refine yX (aV hR.val).1 (fun p hp=>⟨(bC hp).1,(bC hp).2.1⟩) _ (Nat.le_refl _) k hk ?_
  intro i hi he
  have hpm:(ay s nodes).getD i 0∈ay s nodes:=by
   rw[List.getD_eq_getElem?_getD,List.getElem?_eq_getElem hi]
   exact List.getElem_mem _
  obtain⟨p1,p2,p3⟩:=bC hpm
  have hnx:=hM.nxt
  unfold aB at hnx
  simp only[Bool.and_eq_true,decide_eq_true_eq]at hnx
  have hw:=hnx.2 k.toNat (by show k.toNat<3;omega)
  unfold jn at hw
  change (decide (tm x.values ((k.toNat:Nat):Int)≠0) == (decide (0≤cJ s (((k.toNat:Nat):Int)+1))&&decide (tm (endX s x ties).times (cJ s (((k.toNat:Nat):Int)+1))≠-1)))=true at hw
  rw[show((k.toNat:Nat):Int)=k by omega,show k+1=(ay s nodes).getD i 0 by omega]at hw
  obtain⟨j,hj,e,_,h⟩:=mZ (hm _ p3)
  rw[e,h]at hw
  simp only[ne_eq,not_true_eq_false,decide_false,Bool.and_false,beq_iff_eq,decide_eq_false_iff_not,Decidable.not_not]at hw
  exact hne hw
theorem UW (ps:List Int):∃ vs,vs∈obsL ps:=by
 unfold obsL
 exact⟨_,List.mem_map.2 ⟨0,List.mem_range.2 (Nat.pow_pos (by omega)),rfl⟩⟩
theorem QY {s:GShow}{x:GState}(h:x.now≤s.horizon):∃ ties,ties∈bm s x:=by
 unfold bm
 rw[if_neg (by omega)]
 exact⟨_,List.mem_map.2 ⟨0,List.mem_range.2 (Nat.pow_pos (by omega)),rfl⟩⟩
theorem IZ {s:GShow}:∀ (n:Nat) (x:GState),aB s x=true→12≤(n:Int)+x.now→win s x=true→∃ z,aB s z=true∧fv s z=false∧lc s z=true∧Ext s x z
 | 0,x,hx,h,_=>by
  have:=(bl hx).now
  have:=(bl hx).right.hor
  omega
 | n+1,x,hx,h,hw=>by
  have hR:=bl hx
  rw[IX hx]at hw
  unfold lS at hw
  cases hb:fv s x
  ·rw[hb]at hw
   simp only[Bool.false_eq_true,if_false]at hw
   cases ho:lc s x
   ·rw[ho]at hw
    simp only[Bool.false_eq_true,if_false]at hw
    have hh:x.now≤s.horizon:=by
     unfold fv at hb
     rw[Bool.or_eq_false_iff,ho]at hb
     have:=hb.2
     simp only[Bool.not_false,Bool.and_true,decide_eq_false_iff_not]at this
     omega
    obtain⟨ties,ht⟩:=QY hh
    have h1:=List.all_eq_true.1 hw ties ht
    unfold anyB at h1
    rw[List.any_eq_true]at h1
    obtain⟨nodes,hn,h2⟩:=h1
    obtain⟨vs,hv⟩:=UW (ay s nodes)
    unfold bK at h2
    have h3:=List.all_eq_true.1 h2 vs hv
    obtain⟨l1,l2⟩:=sN hv
    have hM:=lT hx ht
    obtain⟨_,_,hm⟩:=dc hM.right hn
    have hy:=vi hM hm l1 l2
    obtain⟨z,z1,z2,z3,z4⟩:=IZ n _ hy (by show 12≤(n:Int)+(x.now+1);omega) h3
    have he:=Pm hx hh ht hn vs
    refine⟨z,z1,z2,z3,?_,?_,?_⟩
    ·intro i hi hl hne
     rw[z4.t1 i hi hl (by rw[he.t1 i hi hl hne];exact hne),he.t1 i hi hl hne]
    ·intro i hi hl heq
     rcases he.t2 i hi hl heq with h5|h5
     ·rcases z4.t2 i hi hl h5 with h6|h6
      ·exact .inl h6
      ·refine .inr ⟨?_,h6.2⟩
       have:(obsX (decX (endX s x ties) nodes) (ay s nodes) vs).now=x.now+1:=rfl
       omega
     ·rw[z4.t1 i hi hl (by have:=hR.now;omega)]
      exact .inr h5
    ·intro k hk hne
     rw[z4.v k hk (by rw[he.v k hk hne];exact hne),he.v k hk hne]
   ·exact⟨x,hx,hb,ho,fun _ _ _ _=>rfl,fun _ _ _ h=>.inl h,fun _ _ _=>rfl⟩
  ·rw[hb]at hw
   simp at hw
theorem NR {l v:List Int}:dn l v=1↔∀ x,x∈l→1≤litV v x:=by
 unfold dn
 have key:∀ (l:List Int) (o:Int),o≤1→(l.foldl (fun o x=>if litV v x<o then litV v x else o) o=1↔o=1∧∀ x,x∈l→1≤litV v x)∧l.foldl (fun o x=>if litV v x<o then litV v x else o) o≤1:=by
  intro l
  induction l with
  | nil=>intro o ho;simp[ho]
  | cons x l ih=>
   intro o ho
   simp only[List.foldl_cons,List.mem_cons,forall_eq_or_imp]
   split
   ·rename_i h
    have:=ih (litV v x) (by omega)
    refine⟨?_,this.2⟩
    rw[this.1]
    constructor
    ·rintro⟨h1,h2⟩
     omega
    ·rintro⟨h1,h2,h3⟩
     omega
   ·rename_i h
    have:=ih o ho
    refine⟨?_,this.2⟩
    rw[this.1]
    constructor
    ·rintro⟨h1,h2⟩
     exact⟨h1,by omega,h2⟩
    ·rintro⟨h1,h2,h3⟩
     exact⟨h1,h3⟩
 have:=(key l 1 (by omega)).1
 simpa using this
def ig (s:GShow)(x:GState)(i:Int):Bool:=decide (dn (jt s i.toNat) x.values=1)
theorem Pn {s:GShow}{x z:GState}(h:StR s x)(he:Ext s x z){i:Int}(h0:0≤i)(h1:i<s.nodes.length)(hs:ig s x i=true):ig s z i=true:=by
 unfold ig at hs ⊢
 rw[decide_eq_true_eq]at hs ⊢
 rw[NR]at hs ⊢
 intro q hq
 have hl:=tK h.ok (i:=i.toNat) (by omega)
 rw[rz (show i.toNat<s.nodes.length by omega)]at hq hs
 obtain⟨p1,p2,p3⟩:=xM hl.1 hq
 have hpos:0≤pr q - 1:=by omega
 have:=hs q hq
 unfold litV at this ⊢
 split
 ·rename_i hlt
  rw[if_pos hlt]at this
  rw[he.v _ hpos (by omega)];exact this
 ·rename_i hlt
  rw[if_neg hlt]at this
  rw[he.v _ hpos (by omega)];exact this
structure Good (s:GShow) (x:GState) (T:Int→Int):Prop where
 fix:∀ i:Int,0≤i→i<s.nodes.length→ig s x i=true→tm x.times i≠-1→T i=tm x.times i
 free:∀ i:Int,0≤i→i<s.nodes.length→ig s x i=true→tm x.times i=-1→x.now≤T i∧T i≤s.horizon
 tie:∀ t,t∈s.ties→ig s x t.from_=true→ig s x t.to=true→t.low≤T t.to - T t.from_∧T t.to - T t.from_≤t.high
theorem Po {s:GShow}{x:GState}(hx:aB s x=true)(hw:win s x=true):∃ T,Good s x T:=by
 have hR:=bl hx
 obtain⟨z,z1,z2,z3,z4⟩:=IZ 12 x hx (by have:=hR.now;omega) hw
 have hZ:=bl z1
 have happ:∀ i:Int,0≤i→i<s.nodes.length→ig s x i=true→tm z.times i≠-1:=by
  intro i h0 h1 hs he
  have hsz:=Pn hR z4 h0 h1 hs
  unfold lc at z3
  rw[uu,decide_eq_true_eq]at z3
  have:=z3 i.toNat (by omega)
  unfold qT at this
  unfold ig at hsz
  rw[decide_eq_true_eq]at hsz
  rw[show((i.toNat:Nat):Int)=i by omega,he,hsz]at this
  simp at this
 refine⟨fun i=>tm z.times i,?_,?_,?_⟩
 ·intro i h0 h1 _ hne
  exact z4.t1 i h0 h1 hne
 ·intro i h0 h1 hs he
  rcases z4.t2 i h0 h1 he with h|h
  ·exact absurd h (happ i h0 h1 hs)
  ·exact h
 ·intro t ht h1 h2
  have hT:=hR.right.tie t ht
  have a1:=happ _ hT.f0 hT.f1 h1
  have a2:=happ _ hT.t0 hT.t1 h2
  unfold fv at z2
  rw[Bool.or_eq_false_iff,List.any_eq_false]at z2
  have:=z2.1 t ht
  unfold late at this
  rw[if_neg a1,if_neg a2]at this
  simp only[Bool.or_eq_true,decide_eq_true_eq,not_or]at this
  omega
structure HInv (s:GShow) (x:GState) (B:Int) (low high:List Int):Prop where
 l1:low.length=s.nodes.length
 l2:high.length=s.nodes.length
 b1:∀ i:Int,0≤i→i<s.nodes.length→-B≤tm low i∧tm low i≤B
 b2:∀ i:Int,0≤i→i<s.nodes.length→-B≤tm high i∧tm high i≤B
 good:∀ T,Good s x T→∀ i:Int,0≤i→i<s.nodes.length→ig s x i=true→tm low i≤T i∧T i≤tm high i
theorem HInv.mono {s:GShow}{x:GState}{B B':Int}{low high:List Int}(h:HInv s x B low high)(hb:B≤B'):HInv s x B' low high:=
 ⟨h.l1,h.l2,fun i a b=>by have:=h.b1 i a b;omega,fun i a b=>by have:=h.b2 i a b;omega,h.good⟩
theorem HInv.setLow {s:GShow}{x:GState}{B:Int}{low high:List Int}(h:HInv s x B low high){j v:Int}(h0:0≤j)(h1:j<s.nodes.length)(hv:-B≤v∧v≤B)(hg:∀ T,Good s x T→ig s x j=true→v≤T j):HInv s x B (low.set j.toNat v) high:=by
 refine⟨by rw[List.length_set];exact h.l1,h.l2,fun i a b=>?_,h.b2,fun T hT i a b hs=>?_⟩
 ·rw[tJ _ _ _ _ h0 (by rw[h.l1];exact h1) a]
  split
  ·exact hv
  ·exact h.b1 i a b
 ·rw[tJ _ _ _ _ h0 (by rw[h.l1];exact h1) a]
  have:=h.good T hT i a b hs
  split
  ·rename_i e;subst e;exact⟨hg T hT hs,this.2⟩
  ·exact this
theorem HInv.setHigh {s:GShow}{x:GState}{B:Int}{low high:List Int}(h:HInv s x B low high){j v:Int}(h0:0≤j)(h1:j<s.nodes.length)(hv:-B≤v∧v≤B)(hg:∀ T,Good s x T→ig s x j=true→T j≤v):HInv s x B low (high.set j.toNat v):=by
 refine⟨h.l1,by rw[List.length_set];exact h.l2,h.b1,fun i a b=>?_,fun T hT i a b hs=>?_⟩
 ·rw[tJ _ _ _ _ h0 (by rw[h.l2];exact h1) a]
  split
  ·exact hv
  ·exact h.b2 i a b
 ·rw[tJ _ _ _ _ h0 (by rw[h.l2];exact h1) a]
  have:=h.good T hT i a b hs
  split
  ·rename_i e;subst e;exact⟨this.1,hg T hT hs⟩
  ·exact this
theorem Kl {s:GShow}{x:GState}(hs:aR s)(h:StR s x):∃ low high sure,jU s x=some (low,high,sure)∧HInv s x 11 low high∧sure=(List.range s.nodes.length).map (fun (i:Nat)=>ig s x (i:Int)):=by
 have hln:=h.len
 have h7:=h.right.nodes
 have hn:=h.now
 have hh:=h.right.hor
 let L:=fun i:Nat=>if tm x.times (i:Int)=-1 then x.now else tm x.times (i:Int)
 let Hh:=fun i:Nat=>if tm x.times (i:Int)=-1 then s.horizon else tm x.times (i:Int)
 let S:=fun i:Nat=>ig s x (i:Int)
 have key:ak (gy s.nodes ((s.nodes.length:Nat):Int) s.ties s.horizon x.now x.times x.values) (((0:Nat):Int),(List.range 0).map L,(List.range 0).map Hh,(List.range 0).map S)=some ((List.range s.nodes.length).map L,(List.range s.nodes.length).map Hh,(List.range s.nodes.length).map S):=by
  refine aH s.nodes.length (fun i=>((i:Int),(List.range i).map L,(List.range i).map Hh,(List.range i).map S)) ?_ ?_
  ·intro i hi
   obtain⟨b,e1,_,e2⟩:=lf hs h (k:=(i:Int)) (by omega) (by omega)
   unfold gy
   try simp only
   rw[if_pos (by omega),e1]
   simp only[obnd]
   rw[dU (by omega)]
   simp only
   rw[e2]
   simp only
   rw[ah (by simp;omega),ah (by simp;omega),ah (by simp;omega),ah (by simp;omega),ah (by simp;omega),ah (by simp;omega),wr (x:=(i:Int)+1) (by omega) (by omega),cI,cI,cI]
   by_cases ht:tm x.times (i:Int)=-1
   ·rw[if_pos ht,show L i=x.now from if_pos ht,show Hh i=s.horizon from if_pos ht];rfl
   ·rw[if_neg ht,ah (by simp;omega),ah (by simp;omega),ah (by simp;omega),ah (by simp;omega),show L i=tm x.times (i:Int) from if_neg ht,show Hh i=tm x.times (i:Int) from if_neg ht];rfl
  ·unfold gy
   try simp only
   rw[if_neg (by omega)]
 refine⟨(List.range s.nodes.length).map L,(List.range s.nodes.length).map Hh,(List.range s.nodes.length).map S,?_,?_,rfl⟩
 ·unfold jU
  simp only[List.range_zero,List.map_nil,Int.natCast_zero]at key
  rw[key];rfl
 ·have tmL:∀ (f:Nat→Int) (i:Int),0≤i→i<s.nodes.length→tm ((List.range s.nodes.length).map f) i=f i.toNat:=by
   intro f i h0 h1
   unfold tm
   rw[List.getElem?_map,List.getElem?_range (show i.toNat<s.nodes.length by omega)];rfl
  refine⟨by simp,by simp,fun i a b=>?_,fun i a b=>?_,fun T hT i a b hs=>?_⟩
  ·rw[tmL L i a b]
   have:=h.all i a b
   show -11≤(if tm x.times ((i.toNat:Nat):Int)=-1 then x.now else tm x.times ((i.toNat:Nat):Int))∧_≤(11:Int)
   rw[show((i.toNat:Nat):Int)=i by omega]
   show -11≤(if tm x.times i=-1 then x.now else tm x.times i)∧(if tm x.times ((i.toNat:Nat):Int)=-1 then x.now else tm x.times ((i.toNat:Nat):Int))≤(11:Int)
   rw[show((i.toNat:Nat):Int)=i by omega]
   split <;> omega
  ·rw[tmL Hh i a b]
   have:=h.all i a b
   show -11≤(if tm x.times ((i.toNat:Nat):Int)=-1 then s.horizon else tm x.times ((i.toNat:Nat):Int))∧(if tm x.times ((i.toNat:Nat):Int)=-1 then s.horizon else tm x.times ((i.toNat:Nat):Int))≤(11:Int)
   rw[show((i.toNat:Nat):Int)=i by omega]
   split <;> omega
  ·rw[tmL L i a b,tmL Hh i a b]
   show(if tm x.times ((i.toNat:Nat):Int)=-1 then x.now else tm x.times ((i.toNat:Nat):Int))≤T i∧T i≤(if tm x.times ((i.toNat:Nat):Int)=-1 then s.horizon else tm x.times ((i.toNat:Nat):Int))
   rw[show((i.toNat:Nat):Int)=i by omega]
   by_cases ht:tm x.times i=-1
   ·rw[if_pos ht,if_pos ht];exact hT.free i a b hs ht
   ·rw[if_neg ht,if_neg ht,hT.fix i a b hs ht];omega
theorem Km {s:GShow}{x:GState}(h:StR s x)(r:Int)(sure:List Bool)(hsure:sure=(List.range s.nodes.length).map (fun (i:Nat)=>ig s x (i:Int)))(B:Int)(hB:0≤B∧B≤100000){low high:List Int}(hi:HInv s x B low high) :
  ∃ q,ak (fg r s.ties ((s.ties.length:Nat):Int) s.nodes s.horizon sure) (0,low,high)=some q∧HInv s x (B+1120) q.1 q.2:=by
 have h14:=h.right.ties
 have getS:∀ k:Int,0≤k→k<s.nodes.length→getI sure k=some (ig s x k):=by
  intro k h0 h1
  have hk:k.toNat<sure.length:=by rw[hsure];simp;omega
  have:=an hk
  rw[show((k.toNat:Nat):Int)=k by omega]at this
  rw[this]
  congr 1
  subst hsure
  simp only[List.getElem_map,List.getElem_range]
  rw[show((k.toNat:Nat):Int)=k by omega]
 refine bo s.ties.length (fun (i:Nat) (st:Int × List Int × List Int)=>st.1=(i:Int)∧HInv s x (B+80*(i:Int)) st.2.1 st.2.2) (fun (q:List Int × List Int)=>HInv s x (B+1120) q.1 q.2) ⟨rfl,hi.mono (by omega)⟩ ?_ ?_
 ·rintro i ⟨a,lo,hg⟩ hlt ⟨rfl,hv⟩
  simp only at hv
  have hT:=h.right.tie _ (List.getElem_mem hlt)
  have hc:B+80*(i:Int)≤200000:=by omega
  left
  unfold fg
  try simp only
  rw[if_pos (by omega),an hlt]
  simp only[obnd]
  rw[getS _ hT.f0 hT.f1]
  simp only
  cases hs1:ig s x s.ties[i].from_
  ·rw[if_neg (by simp),wr (x:=(i:Int)+1) (by omega) (by omega)]
   exact⟨_,rfl,rfl,hv.mono (by omega)⟩
  rw[if_pos rfl,getS _ hT.t0 hT.t1]
  simp only
  cases hs2:ig s x s.ties[i].to
  ·rw[if_neg (by simp),wr (x:=(i:Int)+1) (by omega) (by omega)]
   exact⟨_,rfl,rfl,hv.mono (by omega)⟩
  rw[if_pos rfl]
  have ht:=hT.lo
  have ht2:=hT.hi
  have ht3:=hT.lh
  have fl:=hT.f1
  have tl:=hT.t1
  have c1:=hv.b1 _ hT.f0 hT.f1
  have c2:=hv.b1 _ hT.t0 hT.t1
  have c3:=hv.b2 _ hT.f0 hT.f1
  have c4:=hv.b2 _ hT.t0 hT.t1
  rw[bJ hT.t0 (by rw[hv.l1];omega),bJ hT.f0 (by rw[hv.l1];omega),bJ hT.t0 (by rw[hv.l2];omega),bJ hT.f0 (by rw[hv.l2];omega)]
  simp only
  rw[wr (x:=tm lo s.ties[i].from_+s.ties[i].low) (by omega) (by omega),wr (x:=tm hg s.ties[i].from_+s.ties[i].high) (by omega) (by omega)]
  have v1:=(hv.mono (B':=B+80*(i:Int)+20) (by omega)).setLow (j:=s.ties[i].to) (v:=if tm lo s.ties[i].to<tm lo s.ties[i].from_+s.ties[i].low then tm lo s.ties[i].from_+s.ties[i].low else tm lo s.ties[i].to) hT.t0 hT.t1 (by split <;> omega) (by
   intro T hG hs
   have g1:=hG.tie _ (List.getElem_mem hlt) hs1 hs2
   have g2:=hv.good T hG _ hT.f0 hT.f1 hs1
   have g3:=hv.good T hG _ hT.t0 hT.t1 hs2
   split <;> omega)
  have v2:=v1.setHigh (j:=s.ties[i].to) (v:=if tm hg s.ties[i].from_+s.ties[i].high<tm hg s.ties[i].to then tm hg s.ties[i].from_+s.ties[i].high else tm hg s.ties[i].to) hT.t0 hT.t1 (by split <;> omega) (by
   intro T hG hs
   have g1:=hG.tie _ (List.getElem_mem hlt) hs1 hs2
   have g2:=hv.good T hG _ hT.f0 hT.f1 hs1
   have g3:=hv.good T hG _ hT.t0 hT.t1 hs2
   split <;> omega)
  generalize lo.set s.ties[i].to.toNat (if tm lo s.ties[i].to<tm lo s.ties[i].from_+s.ties[i].low then tm lo s.ties[i].from_+s.ties[i].low else tm lo s.ties[i].to)=lo1 at v2 ⊢
  generalize hg.set s.ties[i].to.toNat (if tm hg s.ties[i].from_+s.ties[i].high<tm hg s.ties[i].to then tm hg s.ties[i].from_+s.ties[i].high else tm hg s.ties[i].to)=hg1 at v2 ⊢
  have d1:=v2.b1 _ hT.f0 hT.f1
  have d2:=v2.b1 _ hT.t0 hT.t1
  have d3:=v2.b2 _ hT.f0 hT.f1
  have d4:=v2.b2 _ hT.t0 hT.t1
  rw[bJ hT.f0 (by rw[v2.l1];omega),bJ hT.t0 (by rw[v2.l1];omega),bJ hT.f0 (by rw[v2.l2];omega),bJ hT.t0 (by rw[v2.l2];omega)]
  simp only
  rw[wr (x:=tm lo1 s.ties[i].to - s.ties[i].high) (by omega) (by omega),wr (x:=tm hg1 s.ties[i].to - s.ties[i].low) (by omega) (by omega),wr (x:=(i:Int)+1) (by omega) (by omega)]
  have v3:=(v2.mono (B':=B+80*(i:Int)+40) (by omega)).setLow (j:=s.ties[i].from_) (v:=if tm lo1 s.ties[i].from_<tm lo1 s.ties[i].to - s.ties[i].high then tm lo1 s.ties[i].to - s.ties[i].high else tm lo1 s.ties[i].from_) hT.f0 hT.f1 (by split <;> omega) (by
   intro T hG hs
   have g1:=hG.tie _ (List.getElem_mem hlt) hs1 hs2
   have g2:=v2.good T hG _ hT.f0 hT.f1 hs1
   have g3:=v2.good T hG _ hT.t0 hT.t1 hs2
   split <;> omega)
  have v4:=v3.setHigh (j:=s.ties[i].from_) (v:=if tm hg1 s.ties[i].to - s.ties[i].low<tm hg1 s.ties[i].from_ then tm hg1 s.ties[i].to - s.ties[i].low else tm hg1 s.ties[i].from_) hT.f0 hT.f1 (by split <;> omega) (by
   intro T hG hs
   have g1:=hG.tie _ (List.getElem_mem hlt) hs1 hs2
   have g2:=v2.good T hG _ hT.f0 hT.f1 hs1
   have g3:=v2.good T hG _ hT.t0 hT.t1 hs2
   split <;> omega)
  exact⟨_,rfl,rfl,v4.mono (by omega)⟩
 ·rintro⟨a,lo,hg⟩ ⟨rfl,hv⟩
  unfold fg
  try simp only
  rw[if_neg (by omega)]
  exact⟨_,rfl,hv.mono (by omega)⟩
theorem Kn {s:GShow}{x:GState}(hs:aR s)(hx:aB s x=true):∃ b,ir s x=some b∧(b=true→win s x=false):=by
 have h:=bl hx
 have h7:=h.right.nodes
 obtain⟨low,high,sure,e1,hi,hsure⟩:=Kl hs h
 have getS:∀ k:Nat,k<s.nodes.length→getI sure (k:Int)=some (ig s x (k:Int)):=by
  intro k h1
  have hk:k<sure.length:=by rw[hsure];simp;omega
  rw[an hk]
  congr 1
  subst hsure
  simp only[List.getElem_map,List.getElem_range]
 unfold ir
 rw[e1]
 simp only[obnd]
 have k3:=bo (body:=fh s.nodes s.ties s.horizon sure) (s0:=((0:Int),low,high)) s.nodes.length (fun i st=>st.1=(i:Int)∧HInv s x (11+1120*(i:Int)) st.2.1 st.2.2) (fun q=>HInv s x 100000 q.1 q.2) ⟨rfl,hi.mono (by omega)⟩ ?_ ?_
 ·obtain⟨q,e3,hq⟩:=k3
  rw[e3]
  simp only
  obtain⟨lo,hg⟩:=q
  simp only at hq ⊢
  have k4:=bo (body:=fi ((lo.length:Nat):Int) lo hg sure) (s0:=(0:Int)) lo.length (fun i st=>st=(i:Int)) (fun r=>r=.inl ()∨(r=.inr true∧∃ i:Int,0≤i∧i<s.nodes.length∧ig s x i=true∧tm hg i<tm lo i)) rfl ?_ ?_
  ·obtain⟨r,e4,hr⟩:=k4
   rw[e4]
   simp only
   rcases hr with rfl|⟨rfl,i,i0,i1,i2,i3⟩
   ·exact⟨false,rfl,fun h=>by cases h⟩
   ·refine⟨true,rfl,fun _=>?_⟩
    cases hw:win s x
    ·rfl
    ·obtain⟨T,hT⟩:=Po hx hw
     have:=hq.good T hT i i0 i1 i2
     omega
  ·rintro i a hlt rfl
   have hl1:=hq.l1
   unfold fi
   try simp only
   rw[if_pos (by omega),getS i (by omega)]
   simp only[obnd]
   cases hsu:ig s x (i:Int)
   ·rw[if_neg (by simp),wr (by omega) (by omega)]
    exact .inl ⟨_,rfl,rfl⟩
   ·rw[if_pos rfl,dU (by omega),dU (by rw[hq.l2];omega)]
    simp only
    by_cases hc:tm hg (i:Int)<tm lo (i:Int)
    ·rw[if_pos hc]
     exact .inr ⟨_,rfl,.inr ⟨rfl,(i:Int),by omega,by omega,hsu,hc⟩⟩
    ·rw[if_neg hc,wr (by omega) (by omega)]
     exact .inl ⟨_,rfl,rfl⟩
  ·rintro a rfl
   unfold fi
   try simp only
   rw[if_neg (by omega)]
   exact⟨_,rfl,.inl rfl⟩
 ·rintro i ⟨a,lo,hg⟩ hlt ⟨rfl,hv⟩
  simp only at hv
  obtain⟨q,e2,hq⟩:=Km h (i:Int) sure hsure (11+1120*(i:Int)) (by omega) hv
  unfold fh
  try simp only
  rw[if_pos (by omega),e2]
  simp only[obnd]
  rw[wr (by omega) (by omega)]
  exact .inl ⟨_,rfl,rfl,hq.mono (by omega)⟩
 ·rintro⟨a,lo,hg⟩ ⟨rfl,hv⟩
  unfold fh
  try simp only
  rw[if_neg (by omega)]
  exact⟨_,rfl,hv.mono (by omega)⟩
end Go.Proofs.Qe
