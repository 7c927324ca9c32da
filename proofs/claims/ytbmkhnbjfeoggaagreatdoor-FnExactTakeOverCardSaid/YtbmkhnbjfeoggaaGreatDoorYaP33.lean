/- Sort,Concat,members: what they come to. Own work. -/
import Derived.Test.YtbmkhnbjfeoggaaGreatDoorYaP24
set_option linter.all false
set_option maxRecDepth 100000
namespace Go.Proofs.Qa
open Go
def Asc (l:List Int):Prop:=l.Pairwise (fun a b=>a<b)
theorem AL:∀ {a b:List Int},Asc a→Asc b→(∀ x,x∈a↔x∈b)→a=b
 | [],[],_,_,_=>rfl
 | [],y::b,_,_,h=>absurd ((h y).2 (by simp)) (by simp)
 | x::a,[],_,_,h=>absurd ((h x).1 (by simp)) (by simp)
 | x::a,y::b,ha,hb,h=>by
  have ha':=List.pairwise_cons.1 ha
  have hb':=List.pairwise_cons.1 hb
  have hxy:x=y:=by
   have h1:=(h x).1 (by simp)
   have h2:=(h y).2 (by simp)
   rcases List.mem_cons.1 h1 with h1 | h1
   ·exact h1
   ·rcases List.mem_cons.1 h2 with h2 | h2
    ·exact h2.symm
    ·have:=hb'.1 x h1
     have:=ha'.1 y h2
     omega
  subst hxy
  rw [AL ha'.2 hb'.2 ?_]
  intro z
  have:=h z
  simp only [List.mem_cons] at this
  constructor
  ·intro hz
   rcases this.1 (.inr hz) with h1 | h1
   ·have:=ha'.1 z hz;omega
   ·exact h1
  ·intro hz
   rcases this.2 (.inr hz) with h1 | h1
   ·have:=hb'.1 z hz;omega
   ·exact h1
theorem su {l:List Int}{x:Int}(h:Asc l)(hx:∀ y,y∈l→y<x):Asc (l++[x]):=by
 unfold Asc
 rw [List.pairwise_append]
 exact ⟨h,List.pairwise_singleton _ _,fun a ha b hb=>by rw [List.mem_singleton.1 hb];exact hx a ha⟩
theorem BK {l:List Int}(h:l.Pairwise (fun a b=>a≤b))(hn:l.Nodup):Asc l:=by
 unfold Asc List.Nodup at *
 have:=h.and hn
 refine this.imp ?_
 intro a b hab
 have:=hab.1
 have:=hab.2
 omega
theorem Asc.nodup {l:List Int}(h:Asc l):l.Nodup:=by
 unfold List.Nodup
 exact h.imp (fun hab=>by omega)
theorem uh {α:Type}[DecidableEq α]:∀ {l r:List α},l.Nodup→(∀ x,x∈l→x∈r)→l.length≤r.length
 | [],_,_,_=>by simp
 | x::l,r,hn,h=>by
  have hn':=List.nodup_cons.1 hn
  have hx:=h x (by simp)
  have:=uh (l:=l) (r:=r.erase x) hn'.2 (fun y hy=>by
   rw [List.mem_erase_of_ne (by intro e;subst e;exact hn'.1 hy)]
   exact h y (by simp [hy]))
  rw [List.length_erase_of_mem hx] at this
  have:0<r.length:=List.length_pos_of_mem hx
  simp only [List.length_cons]
  omega
theorem AM {α:Type}(A:List α)(b:α)(C:List α):getI (A++b::C) ((A.length:Nat):Int)=some b:=by
 rw [aA (by simp)]
 simp
theorem IQ {α:Type}(A:List α)(b z:α)(C:List α):(A++b::C).set A.length z=A++z::C:=by
 rw [List.set_append_right _ _ (Nat.le_refl _),Nat.sub_self];rfl
theorem Gk (x y:Int):jr x y=some (decide (x<y)):=by
 unfold jr iw
 simp [obnd]
theorem Hs (b i x:Int):∀ (n:Nat) (P:List Int),P.length=n→n≤1000→∀ Q:List Int,∃ P1 P2,P=P1++P2∧(∀ y,y∈P2→x<y)∧(∀ A y,P1=A++[y]→y≤x) ∧
  ao (aK 0 b i) (((P.length:Nat):Int),P++x::Q)=some (P1++x::P2++Q):=by
 intro n
 induction n with
 | zero=>
  intro P hP _ Q
  obtain rfl:=List.length_eq_zero_iff.1 hP
  refine ⟨[],[],rfl,by simp,fun A y h=>by simp at h,?_⟩
  rw [aL]
  unfold aK
  simp
 | succ n ih=>
  intro P hP hn Q
  rcases List.eq_nil_or_concat P with rfl | ⟨A,y,rfl⟩
  ·simp at hP
  rw [List.concat_eq_append] at *
  have hA:A.length=n:=by simpa using hP
  rw [aL]
  have e1:getI (A++[y]++x::Q) (((A++[y]).length:Nat):Int)=some x:=AM _ _ _
  have e2:(((A++[y]).length:Nat):Int) - 1=((A.length:Nat):Int):=by simp
  have e3:getI (A++[y]++x::Q) ((A.length:Nat):Int)=some y:=by
   rw [List.append_assoc];exact AM _ _ _
  have e4:(A++[y]++x::Q).set (A++[y]).length y=A++y::(y::Q):=by
   rw [IQ];simp
  by_cases hxy:x<y
  ·obtain ⟨P1,P2,h1,h2,h3,h4⟩:=ih A hA (by omega) (y::Q)
   refine ⟨P1,P2++[y],by rw [h1];simp,?_,h3,?_⟩
   ·intro z hz
    rcases List.mem_append.1 hz with hz | hz
    ·exact h2 z hz
    ·rw [List.mem_singleton.1 hz];exact hxy
   ·have step:aK 0 b i (((A++[y]).length:Nat),A++[y]++x::Q)=some (.next (((A.length:Nat):Int),A++x::(y::Q))):=by
     unfold aK
     simp only
     rw [if_pos (by rw [List.length_append,List.length_singleton];omega),e1]
     simp only [obnd]
     rw [wr (x:=(((A++[y]).length:Nat):Int) - 1) (by rw [List.length_append,List.length_singleton];omega) (by rw [List.length_append,List.length_singleton];omega),e2,e3]
     simp only
     rw [Gk]
     simp only
     rw [if_pos (decide_eq_true hxy),Int.toNat_natCast,e4,AM]
     simp only
     rw [Int.toNat_natCast,IQ]
    rw [step]
    simp only
    rw [h4]
    simp
  ·refine ⟨A++[y],[],by simp,by simp,?_,?_⟩
   ·intro B z hz
    have:=List.append_inj_right' hz rfl
    simp at this
    omega
   ·have step:aK 0 b i (((A++[y]).length:Nat),A++[y]++x::Q)=some (.done (A++[y]++x::Q)):=by
     unfold aK
     simp only
     rw [if_pos (by rw [List.length_append,List.length_singleton];omega),e1]
     simp only [obnd]
     rw [wr (x:=(((A++[y]).length:Nat):Int) - 1) (by rw [List.length_append,List.length_singleton];omega) (by rw [List.length_append,List.length_singleton];omega),e2,e3]
     simp only
     rw [Gk]
     simp only
     rw [if_neg (by rw [decide_eq_false hxy];simp)]
    rw [step]
    simp
theorem Ev (l:List Int)(h:l.length≤12):∃ r,bk l 0 ((l.length:Nat):Int)=some r∧r.Perm l∧r.Pairwise (fun a b=>a≤b):=by
 unfold bk
 have key:∃ r,ao (aP 0 ((l.length:Nat):Int)) (1,l)=some r∧(r.Perm l∧r.Pairwise (fun a b=>a≤b)):=by
  by_cases h0:l.length=0
  ·obtain rfl:=List.length_eq_zero_iff.1 h0
   refine ⟨[],?_,List.Perm.refl _,List.Pairwise.nil⟩
   rw [aL]
   unfold aP
   simp
  refine cP (l.length - 1) (fun i st=>st.1=(i:Int)+1∧st.2.Perm l∧(st.2.take (i+1)).Pairwise (fun a b=>a≤b)) _ ⟨rfl,List.Perm.refl _,?_⟩ ?_ ?_
  ·cases l with
   | nil=>simp
   | cons x l=>simp
  ·rintro i ⟨j,L⟩ hi ⟨hj,hp,hs⟩
   simp only at hj hp hs
   subst hj
   have hL:=hp.length_eq
   have hd:L.drop (i+1)=L[i+1]'(by omega)::L.drop (i+2):=List.drop_eq_getElem_cons (by omega)
   have hsplit:L=L.take (i+1)++L[i+1]'(by omega)::L.drop (i+2):=by rw [← hd,List.take_append_drop]
   generalize hx:L[i+1]'(by omega)=x at hd hsplit
   generalize hA:L.take (i+1)=A at hs hsplit
   generalize hC:L.drop (i+2)=C at hsplit
   have hAl:A.length=i+1:=by rw [← hA,List.length_take];omega
   obtain ⟨P1,P2,h1,h2,h3,h4⟩:=Hs ((l.length:Nat):Int) ((i:Int)+1) x A.length A rfl (by omega) C
   left
   refine ⟨((i:Int)+1+1,P1++x::P2++C),?_,?_,?_,?_⟩
   ·unfold aP
    simp only
    rw [if_pos (by omega),hsplit,show (i:Int)+1=((A.length:Nat):Int) by omega] at *
    rw [h4]
    simp only [obnd]
    rw [wr (by omega) (by omega)]
   ·simp only;omega
   ·refine List.Perm.trans ?_ hp
    rw [hsplit,h1]
    simp only [List.append_assoc,List.cons_append]
    refine List.Perm.append_left P1 ?_
    exact (List.perm_middle (a:=x) (l₁:=P2) (l₂:=C)).symm
   ·simp only
    have hlen:(P1++x::P2).length=i+1+1:=by
     rw [h1] at hAl
     simp at hAl ⊢
     omega
    rw [← hlen,List.take_left]
    rw [h1] at hs
    obtain ⟨s1,s2,s3⟩:=List.pairwise_append.1 hs
    rw [List.pairwise_append]
    refine ⟨s1,List.pairwise_cons.2 ⟨fun y hy=>Int.le_of_lt (h2 y hy),s2⟩,?_⟩
    intro a ha b hb
    have hax:a≤x:=by
     rcases List.eq_nil_or_concat P1 with rfl | ⟨B,y,rfl⟩
     ·simp at ha
     ·rw [List.concat_eq_append] at *
      have hy:=h3 B y rfl
      rcases List.mem_append.1 ha with ha | ha
      ·have:=(List.pairwise_append.1 s1).2.2 a ha y (by simp)
       omega
      ·rw [List.mem_singleton.1 ha];exact hy
    rcases List.mem_cons.1 hb with rfl | hb
    ·exact hax
    ·have:=h2 b hb;omega
  ·rintro ⟨j,L⟩ ⟨hj,hp,hs⟩
   simp only at hj hp hs
   subst hj
   have hL:=hp.length_eq
   unfold aP
   simp only
   rw [if_neg (by omega)]
   refine ⟨_,rfl,hp,?_⟩
   rw [List.take_of_length_le (by omega)] at hs
   exact hs
 obtain ⟨r,e,hr⟩:=key
 rw [show IntKind.wrap .i64 (0+1)=1 from wr (by omega) (by omega),e]
 exact ⟨r,rfl,hr⟩
theorem Ew:∀ n:Nat,n<13→(pT (IntKind.wrap .u64 (n:Int))).isSome=true:=by decide +kernel
theorem Gm (l:List Int)(h:l.length≤12):∃ r,bH l=some r∧r.Perm l∧r.Pairwise (fun a b=>a≤b):=by
 unfold bH
 obtain ⟨b,hb⟩:=Option.isSome_iff_exists.1 (Ew l.length (by omega))
 rw [hb]
 simp only [obnd]
 obtain ⟨r,e,hr⟩:=Ev l h
 have:bQ l 0 ((l.length:Nat):Int) b=some r:=by
  unfold bQ
  rw [aL]
  unfold dN
  rw [wr (by omega) (by omega),if_pos (by omega),e]
  rfl
 rw [this]
 exact ⟨r,rfl,hr⟩
theorem LJ (n:Nat)(h:n≤1048576):gi (n:Int)=some (List.replicate n 0,0):=by
 unfold gi
 rw [if_neg (by omega),wr (x:=(0:Int) - 0) (by omega) (by omega),wr (x:=(n:Int) - (0 - 0)) (by omega) (by omega)]
 by_cases h0:0<n
 ·rw [if_pos (by omega),am (by omega),am (by omega),am (by omega),show ((n:Int) - (0 - 0)).toNat=n by omega]
 ·obtain rfl:n=0:=by omega
  rw [if_neg (by omega)];rfl
theorem BL (xs:List (List Int))(i:Nat)(hi:i<xs.length):(xs.take (i+1)).flatten=(xs.take i).flatten++xs[i]:=by
 rw [List.take_succ_eq_append_getElem hi,List.flatten_append]
 simp
theorem Gn (xs:List (List Int))(i:Nat):(xs.take i).flatten.length≤xs.flatten.length:=by
 have:xs.flatten=(xs.take i).flatten++(xs.drop i).flatten:=by rw [← List.flatten_append,List.take_append_drop]
 rw [this,List.length_append];omega
theorem IR (xs:List (List Int))(h:xs.length≤1048576)(hf:xs.flatten.length≤1048576):eF xs=some xs.flatten:=by
 unfold eF
 have k1:ao (cY xs ((xs.length:Nat):Int)) ((((xs.take 0).flatten.length:Nat):Int),((0:Nat):Int))=some ((xs.flatten.length:Nat):Int):=by
  refine aG xs.length (fun i=>((((xs.take i).flatten.length:Nat):Int),(i:Int))) ?_ ?_
  ·intro i hi
   have e:=BL xs i hi
   have l1:=Gn xs (i+1)
   have e':=congrArg List.length e
   rw [List.length_append] at e'
   unfold cY
   simp only
   rw [if_pos (by omega),aA hi]
   simp only [obnd]
   rw [wr (x:=(((xs.take i).flatten.length:Nat):Int)+((xs[i].length:Nat):Int)) (by omega) (by omega),if_neg (by omega),wr (x:=(i:Int)+1) (by omega) (by omega)]
   congr 3
   omega
  ·unfold cY
   simp only
   rw [if_neg (by omega),List.take_length]
 simp only [List.take_zero,List.flatten_nil,List.length_nil,Int.natCast_zero] at k1
 rw [k1]
 simp only [obnd]
 rw [LJ _ hf]
 simp only
 have k2:∃ q,ao (cZ xs ((xs.length:Nat):Int)) (0,0,List.replicate xs.flatten.length 0)=some q∧(q.1≤q.2.length∧q.2.length≤xs.flatten.length∧q.2.take q.1=xs.flatten):=by
  refine cP xs.length (fun i st=>st.1=(xs.take i).flatten.length∧st.2.1=(i:Int)∧st.1≤st.2.2.length∧st.2.2.length≤xs.flatten.length∧st.2.2.take st.1=(xs.take i).flatten) _ ⟨by simp,rfl,by simp,by simp,by simp⟩ ?_ ?_
  ·rintro i ⟨n,j,L⟩ hi ⟨hn,hj,hl,hz,ht⟩
   simp only at hn hj hl hz ht
   subst hj
   have e:=BL xs i hi
   have l1:=Gn xs (i+1)
   have e':=congrArg List.length e
   rw [List.length_append] at e'
   unfold cZ
   simp only
   rw [if_pos (by omega),aA hi,wr (x:=(i:Int)+1) (by omega) (by omega)]
   simp only [obnd]
   left
   by_cases h1:n=L.length
   ·rw [if_pos h1,am (by omega),am (by omega)]
    refine ⟨_,rfl,by omega,rfl,by simp;omega,by simp only [List.length_append];omega,?_⟩
    rw [h1,List.take_length] at ht
    rw [List.take_of_length_le (by simp;omega),ht,e]
   ·rw [if_neg h1,am (by omega)]
    by_cases h2:xs[i].length=0
    ·rw [if_pos h2]
     have h3:=List.length_eq_zero_iff.1 h2
     refine ⟨_,rfl,by omega,rfl,hl,hz,?_⟩
     rw [e,h3,List.append_nil];exact ht
    ·rw [if_neg h2,am (by omega),am (by omega)]
     refine ⟨_,rfl,by omega,rfl,by simp;omega,by simp only [List.length_append,List.length_take];omega,?_⟩
     rw [ht,e,List.take_of_length_le (by rw [List.length_append];omega)]
  ·rintro ⟨n,j,L⟩ ⟨hn,hj,hl,hz,ht⟩
   simp only at hn hj hl hz ht
   subst hj
   unfold cZ
   simp only
   rw [if_neg (by omega)]
   rw [List.take_length] at ht
   exact ⟨_,rfl,hl,hz,ht⟩
 obtain ⟨q,e,hl,hz,hq⟩:=k2
 have hq':=congrArg List.length hq
 rw [List.length_take] at hq'
 rw [e]
 simp only
 rw [am hl,am (by omega),hq]
def bN (set:Int)(i:Nat):Bool:=decide ((IntKind.wrap .i64 (((BitVec.ofInt (IntKind.bits .i64) (Int.fdiv set (2^(min i 64))) &&& BitVec.ofInt (IntKind.bits .i64) 1).toNat:Nat):Int))=1)
def sel (p:Nat→Bool)(l:List Int)(n:Nat):List Int:=((List.range n).filter p).map (fun j=>l.getD j 0)
theorem AN {p:Nat→Bool}{l:List Int}{n:Nat}(h:p n=true):sel p l (n+1)=sel p l n++[l.getD n 0]:=by
 unfold sel
 rw [List.range_succ,List.filter_append,List.map_append]
 simp [h]
theorem Ex {p:Nat→Bool}{l:List Int}{n:Nat}(h:p n=false):sel p l (n+1)=sel p l n:=by
 unfold sel
 rw [List.range_succ,List.filter_append,List.map_append]
 simp [h]
theorem rK (p:Nat→Bool)(l:List Int)(n:Nat):(sel p l n).length≤n:=by
 unfold sel
 rw [List.length_map]
 have:=List.length_filter_le p (List.range n)
 simpa using this
theorem Gp {p:Nat→Bool}{l:List Int}{n:Nat}{x:Int}(h:x∈sel p l n):∃ i,i<n∧p i=true∧x=l.getD i 0:=by
 unfold sel at h
 simp only [List.mem_map,List.mem_filter,List.mem_range] at h
 obtain ⟨i,⟨h1,h2⟩,rfl⟩:=h
 exact ⟨i,h1,h2,rfl⟩
theorem Ey {p:Nat→Bool}{l:List Int}{x:Int}(h:x∈sel p l l.length):x∈l:=by
 obtain ⟨i,hi,_,rfl⟩:=Gp h
 rw [List.getD_eq_getElem?_getD,List.getElem?_eq_getElem hi]
 exact List.getElem_mem hi
theorem AO {p:Nat→Bool}{l:List Int}(h:Asc l):∀ n,n≤l.length→Asc (sel p l n)
 | 0,_=>List.Pairwise.nil
 | n+1,hn=>by
  have ih:=AO (p:=p) h n (by omega)
  cases hp:p n
  ·rw [Ex hp];exact ih
  ·rw [AN hp]
   refine su ih ?_
   intro y hy
   obtain ⟨i,hi,_,rfl⟩:=Gp hy
   rw [List.getD_eq_getElem?_getD,List.getElem?_eq_getElem (by omega),List.getD_eq_getElem?_getD,List.getElem?_eq_getElem (by omega)]
   exact List.pairwise_iff_getElem.1 h i n (by omega) (by omega) hi
theorem zt (l:List Int)(n:Int)(h:l.length≤1000):gK l n=some (sel (bN n) l l.length):=by
 unfold gK
 have key:ao (gh n l ((l.length:Nat):Int)) (((0:Nat):Int),sel (bN n) l 0)=some (sel (bN n) l l.length):=by
  refine aG l.length (fun i=>((i:Int),sel (bN n) l i)) ?_ ?_
  ·intro i hi
   have hs:=rK (bN n) l i
   unfold gh
   simp only
   rw [if_pos (by omega),bl hi]
   simp only [obnd]
   rw [am (by omega),wr (x:=(i:Int)+1) (by omega) (by omega),Int.toNat_natCast]
   cases hb:bN n i
   ·rw [Ex hb]
    unfold bN at hb
    rw [if_neg (of_decide_eq_false hb)];rfl
   ·rw [AN hb]
    unfold bN at hb
    rw [if_pos (of_decide_eq_true hb),am (by omega),am (by omega)];rfl
  ·unfold gh
   simp only
   rw [if_neg (by omega)]
 rw [show (0:Int)=((0:Nat):Int) from rfl,show ([]:List Int)=sel (bN n) l 0 from rfl,key];rfl
theorem wru {n:Nat}(h:n≤1000000):IntKind.wrap .u64 (n:Int)=n:=by
 show (n:Int) % 18446744073709551616=n
 omega
theorem zu (l:List Int)(n:Int)(h:l.length≤1000):gJ l n=some (sel (bN n) l l.length):=by
 unfold gJ
 have key:ao (ga n l ((l.length:Nat):Int)) (((0:Nat):Int),sel (bN n) l 0)=some (sel (bN n) l l.length):=by
  refine aG l.length (fun i=>((i:Int),sel (bN n) l i)) ?_ ?_
  ·intro i hi
   have hs:=rK (bN n) l i
   unfold ga
   simp only
   rw [if_pos (by omega),bl hi,wru (by omega)]
   simp only [obnd]
   rw [am (by omega),wr (x:=(i:Int)+1) (by omega) (by omega),Int.toNat_natCast]
   cases hb:bN n i
   ·rw [Ex hb]
    unfold bN at hb
    rw [if_neg (of_decide_eq_false hb)];rfl
   ·rw [AN hb]
    unfold bN at hb
    rw [if_pos (of_decide_eq_true hb),am (by omega),am (by omega)];rfl
  ·unfold ga
   simp only
   rw [if_neg (by omega)]
 rw [show (0:Int)=((0:Nat):Int) from rfl,show ([]:List Int)=sel (bN n) l 0 from rfl,key];rfl
noncomputable def mrg (a b:List Int):List Int:=(bH (a++b)).getD []
theorem BM {a b:List Int}(ha:Asc a)(hb:Asc b)(hd:∀ x,x∈a→x∈b→False)(h:a.length+b.length≤12) :
  bH (a++b)=some (mrg a b)∧Asc (mrg a b)∧(∀ x,x∈mrg a b↔x∈a∨x∈b)∧(mrg a b).length=a.length+b.length:=by
 obtain ⟨r,e,hp,hs⟩:=Gm (a++b) (by simpa using h)
 have hm:mrg a b=r:=by unfold mrg;rw [e];rfl
 rw [hm]
 refine ⟨e,BK hs ?_,?_,by rw [hp.length_eq,List.length_append]⟩
 ·refine hp.nodup_iff.2 ?_
  rw [List.nodup_append]
  exact ⟨ha.nodup,hb.nodup,fun x hx y hy he=>hd x hx (he ▸ hy)⟩
 ·intro x
  rw [hp.mem_iff,List.mem_append]
theorem FL {a b:List Int}(ha:Asc a)(hb:Asc b)(hd:∀ x,x∈a→x∈b→False)(h:a.length+b.length≤12):fK a b=some (mrg a b):=by
 obtain ⟨_,m1,m2,_⟩:=BM ha hb hd h
 unfold fK
 have key:∃ r,ao (fm a b) (0,0,[])=some r∧(Asc r∧∀ x,x∈r↔x∈a∨x∈b):=by
  refine cP (a.length+b.length) (fun n st=>∃ i k:Nat,st.1=(i:Int)∧st.2.1=(k:Int)∧i+k=n∧i≤a.length∧k≤b.length∧st.2.2.length=n∧Asc st.2.2∧(∀ x,x∈st.2.2↔x∈a.take i∨x∈b.take k) ∧
   (∀ x,x∈st.2.2→(∀ hi:i<a.length,x<a[i])∧(∀ hk:k<b.length,x<b[k]))) (fun r=>Asc r∧∀ x,x∈r↔x∈a∨x∈b) ?_ ?_ ?_
  ·exact ⟨0,0,rfl,rfl,rfl,Nat.zero_le _,Nat.zero_le _,rfl,List.Pairwise.nil,by simp,by simp⟩
  ·rintro n ⟨i',k',out⟩ hn ⟨i,k,h1,h2,h3,h4,h5,h6,h7,h8,h9⟩
   simp only at h1 h2 h6 h7 h8 h9
   subst h1 h2
   left
   have takeA:∀ hi:i<a.length,(∀ hk:k<b.length,a[i]<b[k])→∃ s',(some (Step.next ((i:Int)+1,(k:Int),out++[a[i]])):Option (Step (Int × Int × List Int) (List Int)))=some (.next s')∧∃ i2 k2:Nat,s'.1=(i2:Int)∧s'.2.1=(k2:Int)∧i2+k2=n+1∧i2≤a.length∧k2≤b.length∧s'.2.2.length=n+1∧Asc s'.2.2∧(∀ x,x∈s'.2.2↔x∈a.take i2∨x∈b.take k2) ∧
     (∀ x,x∈s'.2.2→(∀ hi:i2<a.length,x<a[i2])∧(∀ hk:k2<b.length,x<b[k2])):=by
    intro hi hlt
    refine ⟨_,rfl,i+1,k,by simp,rfl,by omega,hi,h5,by simp [h6],su h7 (fun y hy=>(h9 y hy).1 hi),?_,?_⟩
    ·intro x
     rw [List.take_succ_eq_append_getElem hi]
     simp only [List.mem_append,List.mem_singleton,h8]
     constructor
     ·rintro ((hx | hx) | hx)
      ·exact .inl (.inl hx)
      ·exact .inr hx
      ·exact .inl (.inr hx)
     ·rintro ((hx | hx) | hx)
      ·exact .inl (.inl hx)
      ·exact .inr hx
      ·exact .inl (.inr hx)
    ·intro x hx
     rcases List.mem_append.1 hx with hx | hx
     ·refine ⟨fun hi2=>?_,fun hk=>(h9 x hx).2 hk⟩
      have:=(h9 x hx).1 hi
      have:=List.pairwise_iff_getElem.1 ha i (i+1) hi hi2 (by omega)
      omega
     ·rw [List.mem_singleton.1 hx]
      exact ⟨fun hi2=>List.pairwise_iff_getElem.1 ha i (i+1) hi hi2 (by omega),fun hk=>hlt hk⟩
   have takeB:∀ hk:k<b.length,(∀ hi:i<a.length,b[k]<a[i])→∃ s',(some (Step.next ((i:Int),(k:Int)+1,out++[b[k]])):Option (Step (Int × Int × List Int) (List Int)))=some (.next s')∧∃ i2 k2:Nat,s'.1=(i2:Int)∧s'.2.1=(k2:Int)∧i2+k2=n+1∧i2≤a.length∧k2≤b.length∧s'.2.2.length=n+1∧Asc s'.2.2∧(∀ x,x∈s'.2.2↔x∈a.take i2∨x∈b.take k2) ∧
     (∀ x,x∈s'.2.2→(∀ hi:i2<a.length,x<a[i2])∧(∀ hk:k2<b.length,x<b[k2])):=by
    intro hk hlt
    refine ⟨_,rfl,i,k+1,rfl,by simp,by omega,h4,hk,by simp [h6],su h7 (fun y hy=>(h9 y hy).2 hk),?_,?_⟩
    ·intro x
     rw [List.take_succ_eq_append_getElem hk]
     simp only [List.mem_append,List.mem_singleton,h8]
     constructor
     ·rintro ((hx | hx) | hx)
      ·exact .inl hx
      ·exact .inr (.inl hx)
      ·exact .inr (.inr hx)
     ·rintro (hx | hx | hx)
      ·exact .inl (.inl hx)
      ·exact .inl (.inr hx)
      ·exact .inr hx
    ·intro x hx
     rcases List.mem_append.1 hx with hx | hx
     ·refine ⟨fun hi=>(h9 x hx).1 hi,fun hk2=>?_⟩
      have:=(h9 x hx).2 hk
      have:=List.pairwise_iff_getElem.1 hb k (k+1) hk hk2 (by omega)
      omega
     ·rw [List.mem_singleton.1 hx]
      exact ⟨fun hi=>hlt hi,fun hk2=>List.pairwise_iff_getElem.1 hb k (k+1) hk hk2 (by omega)⟩
   unfold fm
   simp only
   have c1:(out.length+1)*8≤140737488355328:=by omega
   have c2:out.length+1≤9223372036854775807:=by omega
   simp only [am c1,am c2]
   rw [wr (x:=(i:Int)+1) (by omega) (by omega),wr (x:=(k:Int)+1) (by omega) (by omega)]
   by_cases hi:i<a.length
   ·rw [if_pos (by omega)]
    by_cases hk:k<b.length
    ·rw [if_neg (by omega),aA hi,aA hk]
     simp only [obnd]
     by_cases hlt:a[i]<b[k]
     ·rw [if_pos hlt];exact takeA hi (fun _=>hlt)
     ·rw [if_neg hlt]
      refine takeB hk (fun _=>?_)
      have:a[i]≠b[k]:=fun e=>hd a[i] (List.getElem_mem hi) (e ▸ List.getElem_mem hk)
      omega
    ·rw [if_pos (by omega),aA hi]
     simp only [obnd]
     exact takeA hi (fun hk'=>absurd hk' hk)
   ·have hk:k<b.length:=by omega
    rw [if_neg (by omega),if_pos (by omega),if_neg (by omega),aA hk]
    simp only [obnd]
    exact takeB hk (fun hi'=>absurd hi' hi)
  ·rintro ⟨i',k',out⟩ ⟨i,k,h1,h2,h3,h4,h5,h6,h7,h8,h9⟩
   simp only at h1 h2 h6 h7 h8 h9
   subst h1 h2
   obtain rfl:i=a.length:=by omega
   obtain rfl:k=b.length:=by omega
   unfold fm
   simp only
   rw [if_neg (by omega),if_neg (by omega)]
   refine ⟨_,rfl,h7,?_⟩
   simpa using h8
 obtain ⟨r,e,r1,r2⟩:=key
 rw [e]
 simp only [obnd]
 rw [AL r1 m1 (fun x=>by rw [r2,m2])]
end Go.Proofs.Qa
set_option maxRecDepth 100000
namespace Go.Proofs.Qa
open Go
structure Pw (s:GShow) (i:Nat) (t:GTie):Prop where
 low:1≤t.low
 t0:t.to≠0
 watch:∀ b,s.nodes[t.to.toNat]?=some b→b.watch=0
 one:∀ j (hj:j<s.ties.length),j<i→s.ties[j].free=true→s.ties[j].to≠t.to
theorem oP {s:GShow}(h:aQ s=true){i:Nat}(hi:i<s.ties.length)(hf:s.ties[i].free=true):Pw s i s.ties[i]:=by
 have hR:=fG h
 have hT:=hR.tie _ (List.getElem_mem hi)
 unfold aQ at h
 simp only [Bool.and_eq_true,decide_eq_true_eq] at h
 have hp:=h.1.1.1.2 i hi
 rw [vn hi,Bool.and_eq_true] at hp
 have hF:=hp.2
 unfold oJ at hF
 rw [hf] at hF
 simp only [Bool.not_true,Bool.false_or,Bool.and_eq_true,decide_eq_true_eq] at hF
 obtain ⟨⟨⟨h1,h2⟩,h3⟩,h4⟩:=hF
 have a1:=hT.t1
 have a2:=hT.f1
 have b1:s.nodes[s.ties[i].to.toNat]?=some (s.nodes[s.ties[i].to.toNat]'(by have:=hT.t0;omega)):=List.getElem?_eq_getElem _
 have b2:s.nodes[s.ties[i].from_.toNat]?=some (s.nodes[s.ties[i].from_.toNat]'(by have:=hT.f0;omega)):=List.getElem?_eq_getElem _
 rw [b1,b2] at h3
 simp only [decide_eq_true_eq] at h3
 refine ⟨h1,h2,?_,?_⟩
 ·intro b hb
  rw [b1] at hb
  cases hb
  exact h3.1
 ·intro j hj hji hfj he
  rw [Bool.not_eq_true',List.any_eq_false] at h4
  refine h4 s.ties[j] ?_ (by rw [hfj,decide_eq_true he];rfl)
  exact List.mem_take_iff_getElem.2 ⟨j,by omega,rfl⟩
theorem pV (p:Nat→Bool):∀ n,Asc (bq p n)
 | 0=>List.Pairwise.nil
 | n+1=>by
  cases hp:p n
  ·rw [bF hp];exact pV p n
  ·rw [gB hp]
   refine su (pV p n) ?_
   intro y hy
   obtain ⟨i,hi,_,rfl⟩:=pU.1 hy
   omega
theorem xh (s:GShow)(x:GState):Asc (actL s x):=pV _ _
theorem rL {s:GShow}{x:GState}{k:Int}(h:k∈actL s x):∃ i,∃ hi:i<s.ties.length,k=(i:Int)∧s.ties[i].free=true∧tm x.times s.ties[i].from_≠-1∧tm x.times s.ties[i].to=-1:=by
 obtain ⟨i,hi,hp,rfl⟩:=pU.1 h
 unfold kx at hp
 rw [List.getElem?_eq_getElem hi] at hp
 simp only [Option.any_some] at hp
 unfold actT at hp
 simp only [Bool.and_eq_true,decide_eq_true_eq] at hp
 exact ⟨i,hi,rfl,hp.1,hp.2.1,hp.2.2⟩
theorem Kh {s:GShow}(h:aQ s=true){i j:Nat}(hi:i<s.ties.length)(hj:j<s.ties.length)(hf:s.ties[i].free=true)(hg:s.ties[j].free=true)(he:s.ties[i].to=s.ties[j].to):i=j:=by
 rcases Nat.lt_trichotomy i j with hlt | he' | hlt
 ·exact absurd he ((oP h hj hg).one i hi hlt hf)
 ·exact he'
 ·exact absurd he.symm ((oP h hi hf).one j hj hlt hg)
theorem rM {s:GShow}(h:aQ s=true)(x:GState):(actL s x).length≤6:=by
 have hR:=fG h
 have hn:=hR.nodes
 have hnd:((actL s x).map (fun k=>(bC s k).to)).Nodup:=by
  unfold List.Nodup
  rw [List.pairwise_map]
  refine List.Pairwise.imp_of_mem ?_ (xh s x)
  intro a b ha hb hab he
  obtain ⟨i,hi,rfl,hf,_,_⟩:=rL ha
  obtain ⟨j,hj,rfl,hg,_,_⟩:=rL hb
  rw [oG hi,oG hj] at he
  have:=Kh h hi hj hf hg he
  omega
 have:=uh (r:=[1,2,3,4,5,6]) hnd (fun y hy=>by
  rw [List.mem_map] at hy
  obtain ⟨k,hk,rfl⟩:=hy
  obtain ⟨i,hi,rfl,hf,_,_⟩:=rL hk
  rw [oG hi]
  have hT:=hR.tie _ (List.getElem_mem hi)
  have h0:=(oP h hi hf).t0
  have h1:=hT.t0
  have h2:=hT.t1
  simp only [List.mem_cons,List.not_mem_nil,or_false]
  omega)
 simpa using this
def ky (s:GShow)(x:GState)(k:Int):Bool:=decide ((bC s k).high≤x.now - tm x.times (bC s k).from_)
def mayT (s:GShow)(x:GState)(k:Int):Bool:=!ky s x k&&decide ((bC s k).low≤x.now - tm x.times (bC s k).from_)
def jM (s:GShow)(x:GState):List Int:=(actL s x).filter (ky s x)
def mayL (s:GShow)(x:GState):List Int:=(actL s x).filter (mayT s x)
noncomputable def kz (s:GShow)(x:GState)(n:Nat):List Int:=mrg (jM s x) (sel (bN (n:Int)) (mayL s x) (mayL s x).length)
noncomputable def nU (s:GShow)(x:GState):List (List Int):=if s.horizon<x.now then [] else (List.range (2^(mayL s x).length)).map (kz s x)
theorem zw {α:Type}(p q:α→Bool)(h:∀ x,p x=true→q x=false):∀ l:List α,(l.filter p).length+(l.filter q).length≤l.length
 | []=>by simp
 | x::l=>by
  have ih:=zw p q h l
  have hx:=h x
  cases hp:p x
  ·cases hq:q x <;> simp [List.filter_cons,hp,hq] <;> omega
  ·rw [hp] at hx
   have:=hx rfl
   simp [List.filter_cons,hp,this];omega
theorem sv (s:GShow)(x:GState):(jM s x).length+(mayL s x).length≤(actL s x).length:=zw _ _ (fun k h=>by unfold mayT;rw [h];rfl) _
theorem BN (s:GShow)(x:GState):Asc (jM s x):=(xh s x).filter _
theorem Ki (s:GShow)(x:GState):Asc (mayL s x):=(xh s x).filter _
theorem Ht (s:GShow)(x:GState)(k:Int)(h1:k∈jM s x)(h2:k∈mayL s x):False:=by
 have a:=(List.mem_filter.1 h1).2
 have b:=(List.mem_filter.1 h2).2
 unfold mayT at b
 rw [a] at b
 simp at b
theorem rj {s:GShow}(h:aQ s=true)(x:GState)(n:Nat) :
  bH (jM s x++sel (bN (n:Int)) (mayL s x) (mayL s x).length)=some (kz s x n)∧fK (jM s x) (sel (bN (n:Int)) (mayL s x) (mayL s x).length)=some (kz s x n) ∧
  Asc (kz s x n)∧(∀ k,k∈kz s x n→k∈actL s x)∧(kz s x n).length=(jM s x).length+(sel (bN (n:Int)) (mayL s x) (mayL s x).length).length∧(kz s x n).length≤6:=by
 have h6:=rM h x
 have hmm:=sv s x
 have hsl:=rK (bN (n:Int)) (mayL s x) (mayL s x).length
 have hasc:=AO (p:=bN (n:Int)) (Ki s x) (mayL s x).length (Nat.le_refl _)
 have hdis:∀ k,k∈jM s x→k∈sel (bN (n:Int)) (mayL s x) (mayL s x).length→False:=fun k h1 h2=>Ht s x k h1 (Ey h2)
 obtain ⟨m1,m2,m3,m4⟩:=BM (BN s x) hasc hdis (by omega)
 refine ⟨m1,FL (BN s x) hasc hdis (by omega),m2,?_,m4,by unfold kz;omega⟩
 intro k hk
 rcases (m3 k).1 hk with h1 | h1
 ·exact (List.mem_filter.1 h1).1
 ·exact (List.mem_filter.1 (Ey h1)).1
theorem lO {α:Type}(p:α→Bool){l:List α}{i:Nat}(hi:i<l.length):(l.take (i+1)).filter p=(l.take i).filter p++(if p l[i]=true then [l[i]] else []):=by
 rw [List.take_succ_eq_append_getElem hi,List.filter_append]
 cases hp:p l[i] <;> simp [hp]
theorem lc {α:Type}(f:Nat→α)(n:Nat):(List.range (n+1)).map f=(List.range n).map f++[f n]:=by
 rw [List.range_succ,List.map_append];rfl
theorem sw {m:Nat}(h:m≤7):2^m≤128:=by
 have:∀ m:Nat,m<8→2^m≤128:=by decide
 exact this m (by omega)
theorem rN {m:Nat}(h:m≤7):IntKind.wrap .i64 (1*2^(min m 64))=((2^m:Nat):Int):=by
 have hb:=sw h
 rw [Nat.min_eq_left (by omega),Int.one_mul]
 have:(2:Int)^m=((2^m:Nat):Int):=by simp
 rw [this]
 generalize 2^m=q at *
 exact wr (by omega) (by omega)
theorem Ez {s:GShow}{x:GState}(hx:aM s x=true){i:Nat}(hi:i<(actL s x).length) :
  getI s.ties (actL s x)[i]=some (bC s (actL s x)[i])∧getI x.times (bC s (actL s x)[i]).from_=some (tm x.times (bC s (actL s x)[i]).from_) ∧
  IntKind.wrap .i64 (x.now - tm x.times (bC s (actL s x)[i]).from_)=x.now - tm x.times (bC s (actL s x)[i]).from_:=by
 have hR:=de hx
 have hnow:=KN hx
 have hlen:=hR.len
 obtain ⟨j,hj,e,hf,_,_⟩:=rL (List.getElem_mem hi)
 rw [e,oG hj]
 have hT:=hR.right.tie _ (List.getElem_mem hj)
 have hb:=hR.all _ hT.f0 hT.f1
 refine ⟨aA hj,fS hT.f0 (by have:=hT.f1;omega),wr (by omega) (by omega)⟩
theorem Hu {s:GShow}{x:GState}(hx:aM s x=true):js s x=some (nU s x):=by
 have hR:=de hx
 have hok:aQ s=true:=by unfold aM at hx;simp only [Bool.and_eq_true] at hx;exact hx.1.1.1.1.1
 have h6:=rM hok x
 have hmm:=sv s x
 unfold js nU
 by_cases hh:s.horizon<x.now
 ·rw [if_pos hh,if_pos hh]
 rw [if_neg hh,if_neg hh,IP s x hR]
 simp only [obnd]
 have k1:ao (gj (((actL s x).length:Nat):Int) s.nodes s.ties s.horizon x.now x.times x.values (actL s x)) (((0:Nat):Int),((actL s x).take 0).filter (ky s x),((actL s x).take 0).filter (mayT s x))=some (jM s x,mayL s x):=by
  refine aG (actL s x).length (fun i=>((i:Int),((actL s x).take i).filter (ky s x),((actL s x).take i).filter (mayT s x))) ?_ ?_
  ·intro i hi
   obtain ⟨e1,e2,e3⟩:=Ez hx hi
   have l1:=List.length_filter_le (ky s x) ((actL s x).take i)
   have l2:=List.length_filter_le (mayT s x) ((actL s x).take i)
   rw [List.length_take] at l1 l2
   unfold gj
   simp only
   rw [if_pos (by omega),aA hi]
   simp only [obnd]
   rw [e1]
   simp only
   rw [e2]
   simp only
   rw [e3,am (by omega),am (by omega),am (by omega),am (by omega),wr (x:=(i:Int)+1) (by omega) (by omega),lO (ky s x) hi,lO (mayT s x) hi]
   by_cases hm:(bC s (actL s x)[i]).high≤x.now - tm x.times (bC s (actL s x)[i]).from_
   ·have a1:ky s x (actL s x)[i]=true:=decide_eq_true hm
    have a2:mayT s x (actL s x)[i]=false:=by unfold mayT;rw [a1];rfl
    rw [if_pos hm,a1,a2];simp
   ·have a1:ky s x (actL s x)[i]=false:=decide_eq_false hm
    rw [if_neg hm,a1]
    by_cases hl:(bC s (actL s x)[i]).low≤x.now - tm x.times (bC s (actL s x)[i]).from_
    ·have a2:mayT s x (actL s x)[i]=true:=by unfold mayT;rw [a1,decide_eq_true hl];rfl
     rw [if_pos hl,a2];simp
    ·have a2:mayT s x (actL s x)[i]=false:=by unfold mayT;rw [a1,decide_eq_false hl];rfl
     rw [if_neg hl,a2];simp
  ·unfold gj
   simp only
   rw [if_neg (by omega),List.take_length];rfl
 simp only [List.take_zero,List.filter_nil,Int.natCast_zero] at k1
 rw [k1]
 simp only
 have hpow:=sw (m:=(mayL s x).length) (by omega)
 have k2:ao (gk (jM s x) (mayL s x)) (((0:Nat):Int),(List.range 0).map (kz s x))=some ((List.range (2^(mayL s x).length)).map (kz s x)):=by
  refine aG (2^(mayL s x).length) (fun i=>((i:Int),(List.range i).map (kz s x))) ?_ ?_
  ·intro i hi
   obtain ⟨f1,f2,f3,f4,f5,f6⟩:=rj hok x i
   have hsl:=rK (bN (i:Int)) (mayL s x) (mayL s x).length
   unfold gk
   simp only
   rw [am (by omega),rN (by omega),if_pos (by omega),zt _ _ (by omega)]
   simp only [obnd]
   rw [IR _ (by simp) (by simp;omega)]
   simp only
   rw [show [jM s x,sel (bN (i:Int)) (mayL s x) (mayL s x).length].flatten=jM s x++sel (bN (i:Int)) (mayL s x) (mayL s x).length by simp,f1]
   simp only
   rw [am (by rw [f5,List.length_append]),am (by simp;omega),am (by simp;omega),wr (x:=(i:Int)+1) (by omega) (by omega),lc];rfl
  ·unfold gk
   simp only
   rw [am (by omega),rN (by omega),if_neg (by omega)]
 simp only [List.range_zero,List.map_nil,Int.natCast_zero] at k2
 rw [k2]
theorem CB {s:GShow}{x:GState}(hx:aM s x=true):fZ s x=some (jM s x,mayL s x):=by
 have hR:=de hx
 have hok:aQ s=true:=by unfold aM at hx;simp only [Bool.and_eq_true] at hx;exact hx.1.1.1.1.1
 have h6:=rM hok x
 unfold fZ
 rw [Eu s x hR]
 simp only [obnd]
 have k1:ao (dK (((actL s x).length:Nat):Int) s.nodes s.ties s.horizon x.now x.times x.values (actL s x)) (((0:Nat):Int),((actL s x).take 0).filter (ky s x),((actL s x).take 0).filter (mayT s x))=some (jM s x,mayL s x):=by
  refine aG (actL s x).length (fun i=>((i:Int),((actL s x).take i).filter (ky s x),((actL s x).take i).filter (mayT s x))) ?_ ?_
  ·intro i hi
   obtain ⟨e1,e2,e3⟩:=Ez hx hi
   have l1:=List.length_filter_le (ky s x) ((actL s x).take i)
   have l2:=List.length_filter_le (mayT s x) ((actL s x).take i)
   rw [List.length_take] at l1 l2
   unfold dK
   simp only
   rw [if_pos (by omega),aA hi]
   simp only [obnd]
   rw [e1]
   simp only
   rw [e2]
   simp only
   rw [e3,am (by omega),am (by omega),am (by omega),am (by omega),wr (x:=(i:Int)+1) (by omega) (by omega),lO (ky s x) hi,lO (mayT s x) hi]
   by_cases hm:(bC s (actL s x)[i]).high≤x.now - tm x.times (bC s (actL s x)[i]).from_
   ·have a1:ky s x (actL s x)[i]=true:=decide_eq_true hm
    have a2:mayT s x (actL s x)[i]=false:=by unfold mayT;rw [a1];rfl
    rw [if_pos hm,a1,a2];simp
   ·have a1:ky s x (actL s x)[i]=false:=decide_eq_false hm
    rw [if_neg hm,a1]
    by_cases hl:(bC s (actL s x)[i]).low≤x.now - tm x.times (bC s (actL s x)[i]).from_
    ·have a2:mayT s x (actL s x)[i]=true:=by unfold mayT;rw [a1,decide_eq_true hl];rfl
     rw [if_pos hl,a2];simp
    ·have a2:mayT s x (actL s x)[i]=false:=by unfold mayT;rw [a1,decide_eq_false hl];rfl
     rw [if_neg hl,a2];simp
  ·unfold dK
   simp only
   rw [if_neg (by omega),List.take_length];rfl
 simp only [List.take_zero,List.filter_nil,Int.natCast_zero] at k1
 rw [k1]
theorem EA {s:GShow}{x:GState}(hs:ce s)(hx:aM s x=true)(h1:x.times.length≤1048576)(h2:x.values.length≤1048576):eV s x=some (nU s x):=by
 have hR:=de hx
 have hok:aQ s=true:=by unfold aM at hx;simp only [Bool.and_eq_true] at hx;exact hx.1.1.1.1.1
 have h6:=rM hok x
 have hmm:=sv s x
 unfold eV nU
 rw [qu s x hs h1 h2,hx]
 simp only [obnd,if_true]
 by_cases hh:s.horizon<x.now
 ·rw [if_pos hh,if_pos hh]
 rw [if_neg hh,if_neg hh,CB hx]
 simp only
 have hpow:=sw (m:=(mayL s x).length) (by omega)
 have k2:ao (ew (jM s x) (mayL s x)) (((0:Nat):Int),(List.range 0).map (kz s x))=some ((List.range (2^(mayL s x).length)).map (kz s x)):=by
  refine aG (2^(mayL s x).length) (fun i=>((i:Int),(List.range i).map (kz s x))) ?_ ?_
  ·intro i hi
   obtain ⟨f1,f2,f3,f4,f5,f6⟩:=rj hok x i
   unfold ew
   simp only
   rw [wru (by omega),am (by omega),Int.toNat_natCast,rN (by omega),if_pos (by omega),zu _ _ (by omega)]
   simp only [obnd]
   rw [f2]
   simp only
   rw [am (by simp;omega),am (by simp;omega),wr (x:=(i:Int)+1) (by omega) (by omega),lc];rfl
  ·unfold ew
   simp only
   rw [wru (by omega),am (by omega),Int.toNat_natCast,rN (by omega),if_neg (by omega)]
 simp only [List.range_zero,List.map_nil,Int.natCast_zero] at k2
 rw [k2]
theorem sx {s:GShow}{x:GState}(hok:aQ s=true){ties:List Int}(h:ties∈nU s x):x.now≤s.horizon∧ties.length≤6∧(∀ k,k∈ties→k∈actL s x):=by
 unfold nU at h
 by_cases hh:s.horizon<x.now
 ·rw [if_pos hh] at h;simp at h
 rw [if_neg hh,List.mem_map] at h
 obtain ⟨n,_,rfl⟩:=h
 obtain ⟨f1,f2,f3,f4,f5,f6⟩:=rj hok x n
 exact ⟨by omega,f6,f4⟩
theorem BO {s:GShow}{x:GState}(hok:aQ s=true):(nU s x).length≤128:=by
 unfold nU
 have h6:=rM hok x
 have hmm:=sv s x
 have hpow:=sw (m:=(mayL s x).length) (by omega)
 split
 ·simp
 ·simpa using hpow
theorem AP (xs:List (List Int))(p:List Int→Option Bool)(q:List Int→Bool)(hx:Cnt xs.length)(hp:∀ x,x∈xs→p x=some (q x)):cI xs p=some (aO xs q):=by
 unfold cI aO
 have key:=ik (body:=bv xs p ((xs.length:Nat):Int)) xs q (fun i=>(i:Int)) (rT:=.inl ()) (fun i=>.inr (i:Int)) ?_ ?_ ?_
 ·rw [show (0:Int)=((0:Nat):Int) from rfl,key]
  simp only [obnd]
  cases xs.findIdx? q <;> rfl
 ·intro i hi hq
  unfold bv
  unfold Cnt at hx
  rw [if_pos (by omega),aA hi,wr (x:=(i:Int)+1) (by omega) (by omega)]
  simp only [obnd]
  rw [hp _ (List.getElem_mem hi),hq];rfl
 ·intro i hi hq
  unfold bv
  rw [if_pos (by omega),aA hi]
  simp only [obnd]
  rw [hp _ (List.getElem_mem hi),hq];rfl
 ·unfold bv
  rw [if_neg (by omega)]
theorem EB (xs:List (List Int))(l:List Int)(hx:Cnt xs.length)(hl:Cnt l.length):la xs l=some (decide (l∈xs)):=by
 unfold la dd
 rw [AP xs _ (fun y=>decide (l=y)) hx (fun y _=>by unfold ma;rw [ut l y hl];rfl)]
 simp only [obnd]
 rw [nn]
 congr 1
 rw [Bool.eq_iff_iff,List.any_eq_true,decide_eq_true_eq]
 simp
theorem xi (xs:List (List Int))(l:List Int)(hx:Cnt xs.length)(hx2:∀ x,x∈xs→Cnt x.length):jo xs l=some (decide (l∈xs)):=by
 unfold jo
 have key:ao (fL l xs ((xs.length:Nat):Int)) ((0:Nat):Int)=some (if xs.all (fun x=>!decide (x=l))=true then .inl () else .inr true):=by
  unfold Cnt at hx
  refine il xs (fun x=>!decide (x=l)) (fun i=>(i:Int)) ?_ ?_ ?_
  ·intro i hi hq
   rw [Bool.not_eq_true',decide_eq_false_iff_not] at hq
   unfold fL
   rw [if_pos (by omega),aA hi,wr (x:=(i:Int)+1) (by omega) (by omega)]
   simp only [obnd]
   rw [sF _ _ (hx2 _ (List.getElem_mem hi))]
   simp only
   rw [if_neg (by rw [decide_eq_false hq];simp)];rfl
  ·intro i hi hq
   rw [Bool.not_eq_false',decide_eq_true_eq] at hq
   unfold fL
   rw [if_pos (by omega),aA hi]
   simp only [obnd]
   rw [sF _ _ (hx2 _ (List.getElem_mem hi))]
   simp only
   rw [if_pos (decide_eq_true hq)]
  ·unfold fL
   rw [if_neg (by omega)]
 rw [show (0:Int)=((0:Nat):Int) from rfl,key]
 have e:decide (l∈xs)=!xs.all (fun x=>!decide (x=l)):=by
  rw [Bool.eq_iff_iff,decide_eq_true_eq,Bool.not_eq_true',List.all_eq_false]
  simp
 rw [e]
 cases xs.all (fun x=>!decide (x=l)) <;> rfl
def bb (f:Int→Int)(v:Int)(ks t:List Int):List Int:=ks.foldl (fun t k=>t.set (f k).toNat v) t
theorem oQ (f:Int→Int)(v:Int)(ks:List Int)(k:Int)(t:List Int):bb f v (ks++[k]) t=(bb f v ks t).set (f k).toNat v:=by
 unfold bb;rw [List.foldl_append];rfl
theorem df (f:Int→Int)(v:Int):∀ (ks t:List Int),(bb f v ks t).length=t.length
 | [],t=>rfl
 | k::ks,t=>by
  show (bb f v ks (t.set (f k).toNat v)).length=_
  rw [df f v ks,List.length_set]
theorem EC (t:List Int)(j i v:Int)(hj:0≤j)(hj2:j<t.length)(hi:0≤i):tm (t.set j.toNat v) i=if i=j then v else tm t i:=by
 unfold tm
 rw [List.getElem?_set]
 by_cases h:i=j
 ·subst h
  rw [if_pos rfl,if_pos (by omega),if_pos rfl];rfl
 ·rw [if_neg (by omega),if_neg h]
theorem ui (f:Int→Int)(v:Int):∀ (ks t:List Int) (i:Int),0≤i→(∀ k,k∈ks→0≤f k∧f k<t.length)→tm (bb f v ks t) i=if i∈ks.map f then v else tm t i
 | [],t,i,_,_=>by simp [bb]
 | k::ks,t,i,h0,h=>by
  have hk:=h k (by simp)
  show tm (bb f v ks (t.set (f k).toNat v)) i=_
  rw [ui f v ks _ i h0 (fun k' hk'=>by rw [List.length_set];exact h k' (by simp [hk'])),EC _ _ _ _ hk.1 hk.2 h0]
  by_cases h1:i∈ks.map f
  ·rw [if_pos h1,if_pos (by simp only [List.map_cons,List.mem_cons];exact .inr h1)]
  ·rw [if_neg h1]
   by_cases h2:i=f k
   ·rw [if_pos h2,if_pos (by simp [h2])]
   ·rw [if_neg h2,if_neg (by simp only [List.map_cons,List.mem_cons];rintro (h3 | h3);exact h2 h3;exact h1 h3)]
theorem qv (x:GState)(h1:x.times.length≤1048576)(h2:x.values.length≤1048576):di x=some x:=by
 unfold di
 rw [qz _ h1,qz _ h2];rfl
theorem pW (x:GState)(h1:x.times.length≤1048576)(h2:x.values.length≤1048576):dw x=some x:=by
 unfold dw
 rw [am (by omega),am (by omega),am (by omega),am (by omega)]
def endX (s:GShow)(x:GState)(ties:List Int):GState:=⟨x.now,bb (fun k=>(bC s k).to) x.now ties x.times,x.values⟩
theorem sy {s:GShow}{x:GState}(hx:aM s x=true){ties:List Int}(ht:∀ k,k∈ties→k∈actL s x){i:Nat}(hi:i<ties.length) :
  getI s.ties ties[i]=some (bC s ties[i])∧0≤(bC s ties[i]).to∧(bC s ties[i]).to<x.times.length:=by
 have hR:=de hx
 have hlen:=hR.len
 obtain ⟨j,hj,e,_,_,_⟩:=rL (ht _ (List.getElem_mem hi))
 rw [e,oG hj]
 have hT:=hR.right.tie _ (List.getElem_mem hj)
 exact ⟨aA hj,hT.t0,by have:=hT.t1;omega⟩
theorem Kj {s:GShow}{x:GState}(hx:aM s x=true)(h2:x.values.length≤1048576){ties:List Int}(hl:ties.length≤1000)(ht:∀ k,k∈ties→k∈actL s x):kM s x ties=some (endX s x ties):=by
 have hR:=de hx
 have hlen:=hR.len
 have hn:=hR.right.nodes
 unfold kM
 rw [qv x (by omega) h2]
 simp only [obnd]
 have key:ao (ix ties ((ties.length:Nat):Int) s.nodes s.ties s.horizon x.now x.times x.values x.now x.values) (((0:Nat):Int),bb (fun k=>(bC s k).to) x.now (ties.take 0) x.times)=some (bb (fun k=>(bC s k).to) x.now ties x.times):=by
  refine aG ties.length (fun i=>((i:Int),bb (fun k=>(bC s k).to) x.now (ties.take i) x.times)) ?_ ?_
  ·intro i hi
   obtain ⟨e1,e2,e3⟩:=sy hx ht hi
   unfold ix
   simp only
   rw [if_pos (by omega),aA hi]
   simp only [obnd]
   rw [e1]
   simp only
   rw [fS e2 (by rw [df];exact e3)]
   simp only
   rw [wr (x:=(i:Int)+1) (by omega) (by omega),List.take_succ_eq_append_getElem hi,oQ];rfl
  ·unfold ix
   simp only
   rw [if_neg (by omega),List.take_length]
 rw [List.take_zero] at key
 change obnd (ao _ (((0:Nat):Int),bb (fun k=>(bC s k).to) x.now [] x.times)) _=_
 rw [key];rfl
theorem IS {s:GShow}{x:GState}(hx:aM s x=true)(h2:x.values.length≤1048576){ties:List Int}(hl:ties.length≤1000)(ht:∀ k,k∈ties→k∈actL s x):kb s x ties=some (endX s x ties):=by
 have hR:=de hx
 have hlen:=hR.len
 have hn:=hR.right.nodes
 unfold kb
 rw [pW x (by omega) h2]
 simp only [obnd]
 have key:ao (gQ ties ((ties.length:Nat):Int) s.nodes s.ties s.horizon x.now x.times x.values x.now x.values) (((0:Nat):Int),bb (fun k=>(bC s k).to) x.now (ties.take 0) x.times)=some (bb (fun k=>(bC s k).to) x.now ties x.times):=by
  refine aG ties.length (fun i=>((i:Int),bb (fun k=>(bC s k).to) x.now (ties.take i) x.times)) ?_ ?_
  ·intro i hi
   obtain ⟨e1,e2,e3⟩:=sy hx ht hi
   unfold gQ
   simp only
   rw [if_pos (by omega),aA hi]
   simp only [obnd]
   rw [e1]
   simp only
   rw [fS e2 (by rw [df];exact e3)]
   simp only
   rw [wr (x:=(i:Int)+1) (by omega) (by omega),List.take_succ_eq_append_getElem hi,oQ];rfl
  ·unfold gQ
   simp only
   rw [if_neg (by omega),List.take_length]
 rw [List.take_zero] at key
 change obnd (ao _ (((0:Nat):Int),bb (fun k=>(bC s k).to) x.now [] x.times)) _=_
 rw [key];rfl
def Dv (x:GState):GState:=⟨x.now+1,x.times,x.values⟩
def Dw (s:GShow)(x:GState):Bool:=decide (0≤x.now∧x.now≤s.horizon)&&aM s (Dv x)
theorem Gq {s:GShow}{x:GState}(hx:aM s x=true){ties:List Int}(ht:∀ k,k∈ties→k∈actL s x){i:Int}(hi:0≤i) :
  tm (endX s x ties).times i=if i∈ties.map (fun k=>(bC s k).to) then x.now else tm x.times i:=by
 unfold endX
 refine ui _ _ _ _ _ hi ?_
 intro k hk
 obtain ⟨j,hj,rfl⟩:=List.getElem_of_mem hk
 exact (sy hx ht hj).2
theorem zx {s:GShow}{x:GState}(hok:aQ s=true){ties:List Int}(ht:∀ k,k∈ties→k∈actL s x){i:Int}(h:i∈ties.map (fun k=>(bC s k).to)):i≠0∧∀ b,s.nodes[i.toNat]?=some b→b.watch=0:=by
 rw [List.mem_map] at h
 obtain ⟨k,hk,rfl⟩:=h
 obtain ⟨j,hj,rfl,hf,_,_⟩:=rL (ht _ hk)
 rw [oG hj]
 have:=oP hok hj hf
 exact ⟨this.t0,this.watch⟩
theorem xj {s:GShow}{x:GState}(hx:aM s x=true)(hh:x.now≤s.horizon){ties:List Int}(ht:∀ k,k∈ties→k∈actL s x):Dw s (endX s x ties)=true:=by
 have hnow:=KN hx
 have hx0:=hx
 have hl:(endX s x ties).times.length=x.times.length:=df _ _ _ _
 unfold aM at hx
 simp only [Bool.and_eq_true,decide_eq_true_eq] at hx
 obtain ⟨⟨⟨⟨⟨h1,h2⟩,h3⟩,h4⟩,h5⟩,h6⟩:=hx
 unfold Dw aM
 simp only [Bool.and_eq_true,decide_eq_true_eq]
 refine ⟨⟨h2.1,hh⟩,⟨⟨⟨⟨h1,?_⟩,?_⟩,h4⟩,?_⟩,?_⟩
 ·show 0≤x.now+1∧x.now+1≤s.horizon+1
  omega
 ·exact hl.trans h3
 ·intro i hi
  have hi':i<x.times.length:=by rw [← hl];exact hi
  have h5i:=h5 i hi'
  unfold mc at h5i ⊢
  have e:=Gq hx0 ht (i:=(i:Int)) (by omega)
  show (if i=0 then decide (tm (endX s x ties).times 0=0) else decide (-1≤tm (endX s x ties).times i∧tm (endX s x ties).times i≤x.now+1 - 1))=true
  by_cases hi0:i=0
  ·rw [if_pos hi0] at h5i ⊢
   subst hi0
   rw [show ((0:Nat):Int)=0 from rfl] at e
   rw [e,if_neg (fun h=>(zx h1 ht h).1 rfl)]
   exact h5i
  ·rw [if_neg hi0] at h5i ⊢
   rw [decide_eq_true_eq] at h5i ⊢
   rw [e]
   split
   ·omega
   ·omega
 ·intro i hi
  have h6i:=h6 i hi
  unfold lN at h6i ⊢
  show (decide (tm x.values i≠0) == (decide (0≤aO s.nodes (fun n=>decide (n.watch=(i:Int)+1)))&&decide (tm (endX s x ties).times (aO s.nodes (fun n=>decide (n.watch=(i:Int)+1)))≠-1)))=true
  by_cases hw:0≤aO s.nodes (fun n=>decide (n.watch=(i:Int)+1))
  ·obtain ⟨j,hj,e,hq,_⟩:=jF hw
   rw [Gq hx0 ht hw,if_neg ?_]
   ·exact h6i
   ·intro hm
    have:=(zx h1 ht hm).2 s.nodes[j] (by rw [e,Int.toNat_natCast,List.getElem?_eq_getElem hj])
    rw [decide_eq_true_eq] at hq
    omega
  ·rw [decide_eq_false hw] at h6i ⊢
   simpa using h6i
end Go.Proofs.Qa
set_option maxRecDepth 100000
namespace Go.Proofs.Qa
open Go
def litV (v:List Int)(x:Int):Int:=if x<0 then 0 - tm v (pr x - 1) else tm v (pr x - 1)
def qV (l v:List Int):Int:=l.foldl (fun o x=>if litV v x<o then litV v x else o) 1
theorem ED {x:Int}(h1:-3≤x)(h2:x≤3):pr x≤3:=by
 unfold pr
 split
 ·rw [wr (by omega) (by omega)];omega
 ·omega
theorem eZ {v:List Int}(h:dl v=true):v.length=3∧∀ x,x∈v→-1≤x∧x≤1:=by
 unfold dl at h
 simp only [Bool.and_eq_true,decide_eq_true_eq,List.all_eq_true] at h
 exact h
theorem Gr {l v:List Int}(hl:bn l=true)(hv:dl v=true){x:Int}(hx:x∈l):getI v (IntKind.wrap .i64 (pr x - 1))=some (tm v (pr x - 1))∧IntKind.wrap .i64 (0 - tm v (pr x - 1))=0 - tm v (pr x - 1):=by
 obtain ⟨h1,h2,h3⟩:=EX hl hx
 have h4:=ED h2 h3
 obtain ⟨v1,v2⟩:=eZ hv
 have hb:=v2 _ (Ou (ts:=v) (i:=pr x - 1) (by omega) (by omega))
 rw [wr (x:=pr x - 1) (by omega) (by omega)]
 exact ⟨fS (by omega) (by omega),wr (by omega) (by omega)⟩
theorem zy {l v:List Int}(hl:bn l=true)(hv:dl v=true)(hc:Cnt l.length):gm l v=some (qV l v):=by
 have v1:=(eZ hv).1
 unfold gm
 rw [kS l hc,hl]
 simp only [obnd,if_true]
 rw [Cw v (by unfold Cnt;omega),hv]
 simp only [if_true]
 have key:ao (dO v l ((l.length:Nat):Int)) ((l.take 0).foldl (fun o x=>if litV v x<o then litV v x else o) 1,((0:Nat):Int))=some (qV l v):=by
  refine aG l.length (fun i=>((l.take i).foldl (fun o x=>if litV v x<o then litV v x else o) 1,(i:Int))) ?_ ?_
  ·intro i hi
   unfold Cnt at hc
   obtain ⟨e1,e2⟩:=Gr hl hv (List.getElem_mem hi)
   unfold dO
   simp only
   rw [if_pos (by omega),aA hi,wr (x:=(i:Int)+1) (by omega) (by omega)]
   simp only [obnd]
   have hh:kO l[i] v=some (litV v l[i]):=by
    unfold kO litV
    rw [pu]
    simp only [obnd]
    rw [e1]
    simp only
    rw [e2]
    split <;> rfl
   rw [hh]
   simp only
   rw [List.take_succ_eq_append_getElem hi,List.foldl_append];rfl
  ·unfold dO
   simp only
   rw [if_neg (by omega),List.take_length];rfl
 rw [List.take_zero] at key
 change obnd (ao _ (1,((0:Nat):Int))) _=_
 rw [show (1:Int)=([]:List Int).foldl (fun o x=>if litV v x<o then litV v x else o) 1 from rfl,key];rfl
theorem FM {l v:List Int}(hl:bn l=true)(hv:dl v=true)(hc:Cnt l.length):iu l v=some (qV l v):=by
 unfold iu
 have key:ao (fo v l ((l.length:Nat):Int)) ((l.take 0).foldl (fun o x=>if litV v x<o then litV v x else o) 1,((0:Nat):Int))=some (qV l v):=by
  refine aG l.length (fun i=>((l.take i).foldl (fun o x=>if litV v x<o then litV v x else o) 1,(i:Int))) ?_ ?_
  ·intro i hi
   unfold Cnt at hc
   obtain ⟨e1,e2⟩:=Gr hl hv (List.getElem_mem hi)
   unfold fo
   simp only
   rw [if_pos (by omega),aA hi,wr (x:=(i:Int)+1) (by omega) (by omega)]
   simp only [obnd]
   rw [pZ]
   simp only
   rw [e1]
   simp only
   rw [e2,List.take_succ_eq_append_getElem hi,List.foldl_append]
   unfold litV
   simp only [List.foldl_cons,List.foldl_nil]
   by_cases hx:l[i]<0
   ·simp only [if_pos hx];rfl
   ·simp only [if_neg hx];rfl
  ·unfold fo
   simp only
   rw [if_neg (by omega),List.take_length];rfl
 rw [List.take_zero] at key
 change obnd (ao _ (1,((0:Nat):Int))) _=_
 rw [show (1:Int)=([]:List Int).foldl (fun o x=>if litV v x<o then litV v x else o) 1 from rfl,key];rfl
def pq (s:GShow)(k:Int):Int:=aO s.ties (fun t=>t.free&&decide (t.to=k))
def Dx (s:GShow)(i:Nat):List Int:=((s.nodes[i]?).map (fun n=>n.label)).getD []
def chAt (s:GShow)(i:Nat):Bool:=decide (0<i)&&decide (pq s (i:Int)<0)
def opAt (s:GShow)(x:GState)(i:Nat):Bool:=decide (tm x.times (i:Int)=-1)&&decide (qV (Dx s i) x.values=1)
def enAt (s:GShow)(x:GState)(i:Nat):Bool:=chAt s i&&opAt s x i
def enL (s:GShow)(x:GState):List Int:=bq (enAt s x) s.nodes.length
theorem sU (p:Nat→Bool)(q:Int→Bool):∀ n,(bq p n).filter q=bq (fun i=>p i&&q (i:Int)) n
 | 0=>rfl
 | n+1=>by
  have ih:=sU p q n
  cases hp:p n
  ·rw [bF hp,bF (by simp [hp]),ih]
  ·rw [gB hp,List.filter_append,ih]
   cases hq:q (n:Int)
   ·rw [bF (by simp [hp,hq])];simp [hq]
   ·rw [gB (by simp [hp,hq])];simp [hq]
theorem uj {p q:Nat→Bool}:∀ {n:Nat},(∀ i,i<n→p i=q i)→bq p n=bq q n
 | 0,_=>rfl
 | n+1,h=>by
  have ih:=uj (n:=n) (fun i hi=>h i (by omega))
  have hn:=h n (by omega)
  cases hp:p n
  ·rw [bF hp,bF (by rw [← hn];exact hp),ih]
  ·rw [gB hp,gB (by rw [← hn];exact hp),ih]
theorem Hv (s:GShow)(k:Int)(hs:ce s):jt s k=some (pq s k):=by
 unfold jt pq
 rw [ta s.ties _ (fun t=>t.free&&decide (t.to=k)) hs.ties]
 ·rfl
 ·intro t _
  unfold iY
  cases t.free <;> rfl
theorem IT (s:GShow)(hs:ce s)(hR:sq s):kf s=some (bq (chAt s) s.nodes.length):=by
 have h1:=hR.node1
 have h7:=hR.nodes
 unfold kf
 have key:ao (gX s.nodes s.ties s.horizon) (((0:Nat):Int)+1,bq (chAt s) (0+1))=some (bq (chAt s) s.nodes.length):=by
  refine aG (s.nodes.length - 1) (fun i=>((i:Int)+1,bq (chAt s) (i+1))) ?_ ?_
  ·intro i hi
   have hl:=lb (chAt s) (i+1)
   unfold gX
   simp only
   rw [if_pos (by omega),show (GShow.mk s.nodes s.ties s.horizon)=s from rfl,Hv s _ hs,wr (x:=(i:Int)+1+1) (by omega) (by omega),am (by omega),am (by omega)]
   simp only [obnd]
   have e:chAt s (i+1)=decide (pq s ((i:Int)+1)<0):=by
    unfold chAt
    rw [decide_eq_true (show 0<i+1 by omega),Bool.true_and];rfl
   by_cases hf:pq s ((i:Int)+1)<0
   ·rw [if_pos hf,gB (n:=i+1) (by rw [e];exact decide_eq_true hf)];rfl
   ·rw [if_neg hf,bF (n:=i+1) (by rw [e];exact decide_eq_false hf)];rfl
  ·unfold gX
   simp only
   rw [if_neg (by omega),show s.nodes.length - 1+1=s.nodes.length by omega]
 have e0:bq (chAt s) (0+1)=[]:=by rw [bF (by rfl)];rfl
 rw [e0] at key
 change obnd (ao _ (((0:Nat):Int)+1,[])) _=_
 rw [key];rfl
theorem EE {s:GShow}(hok:aQ s=true){i:Nat}(hi:i<s.nodes.length):bn s.nodes[i].label=true∧0≤s.nodes[i].watch∧s.nodes[i].watch≤3:=by
 unfold aQ at hok
 simp only [Bool.and_eq_true] at hok
 have h:=wK hok.1.1.1.1 _ (List.getElem_mem hi)
 have h2:=h
 unfold jB at h2
 simp only [Bool.and_eq_true,decide_eq_true_eq] at h2
 exact ⟨uw h,h2.2⟩
theorem EF {s:GShow}{i:Nat}(hi:i<s.nodes.length):Dx s i=s.nodes[i].label:=by
 unfold Dx
 rw [List.getElem?_eq_getElem hi];rfl
structure MomR (s:GShow) (x:GState):Prop where
 ok:aQ s=true
 right:sq s
 now:0≤x.now∧x.now≤s.horizon
 len:x.times.length=s.nodes.length
 val:dl x.values=true
 nxt:aM s (Dv x)=true
theorem uk {s:GShow}{x:GState}(h:Dw s x=true):MomR s x:=by
 unfold Dw at h
 simp only [Bool.and_eq_true,decide_eq_true_eq] at h
 obtain ⟨h1,h2⟩:=h
 have h3:=h2
 unfold aM at h2
 simp only [Bool.and_eq_true,decide_eq_true_eq] at h2
 obtain ⟨⟨⟨⟨⟨a1,a2⟩,a3⟩,a4⟩,a5⟩,a6⟩:=h2
 exact ⟨a1,fG a1,h1,a3,a4,h3⟩
theorem Hw {s:GShow}{x:GState}(hs:ce s)(h:MomR s x):ju s x=some (enL s x):=by
 have h7:=h.right.nodes
 have hln:=h.len
 have hpl:=lb (chAt s) s.nodes.length
 unfold ju
 rw [IT s hs h.right]
 simp only [obnd]
 rw [AK _ _ (fun k=>!(decide (tm x.times k=-1)&&decide (qV (Dx s k.toNat) x.values=1))) (by unfold Cnt;omega)]
 ·simp only [Bool.not_not]
  rw [sU]
  unfold enL
  rw [uj (q:=enAt s x)]
  intro i hi
  unfold enAt opAt
  rw [Int.toNat_natCast]
 ·intro k hk
  obtain ⟨i,hi,_,rfl⟩:=pU.1 hk
  unfold iZ
  rw [qt (by omega)]
  simp only [obnd]
  by_cases ht:tm x.times (i:Int)=-1
  ·rw [if_pos ht]
   unfold jI
   rw [aA hi]
   simp only [obnd]
   rw [zy (EE h.ok hi).1 h.val (hs.node _ (List.getElem_mem hi)).2,decide_eq_true ht,Int.toNat_natCast,EF hi]
   simp
  ·rw [if_neg ht,decide_eq_false ht];rfl
theorem CC {s:GShow}{x:GState}(hs:ce s)(h:MomR s x):gb s x=some (enL s x):=by
 have h7:=h.right.nodes
 have hln:=h.len
 unfold gb
 have key:ao (dL s.nodes ((s.nodes.length:Nat):Int) s.ties s.horizon x.now x.times x.values) (((0:Nat):Int),bq (enAt s x) 0)=some (enL s x):=by
  refine aG s.nodes.length (fun i=>((i:Int),bq (enAt s x) i)) ?_ ?_
  ·intro i hi
   have hpl:=lb (enAt s x) i
   unfold dL
   simp only
   rw [if_pos (by omega),aA hi,show (GShow.mk s.nodes s.ties s.horizon)=s from rfl,zC s _ hs.ties,qt (by omega),wr (x:=(i:Int)+1) (by omega) (by omega),am (by omega),am (by omega)]
   simp only [obnd]
   rw [FM (EE h.ok hi).1 h.val (hs.node _ (List.getElem_mem hi)).2]
   simp only
   have e:enAt s x i=(decide (0<i)&&decide (pq s (i:Int)<0)&&(decide (tm x.times (i:Int)=-1)&&decide (qV s.nodes[i].label x.values=1))):=by
    unfold enAt chAt opAt
    rw [EF hi]
   change (if (0:Int)<(i:Int) then (if pq s (i:Int)<0 then _ else _) else _)=_
   by_cases h0:0<i
   ·rw [if_pos (by omega)]
    by_cases hf:pq s (i:Int)<0
    ·rw [if_pos hf]
     by_cases ht:tm x.times (i:Int)=-1
     ·rw [if_pos ht]
      by_cases hs1:qV s.nodes[i].label x.values=1
      ·rw [if_pos hs1,gB (by rw [e,decide_eq_true h0,decide_eq_true hf,decide_eq_true ht,decide_eq_true hs1];rfl)];rfl
      ·rw [if_neg hs1,bF (by rw [e,decide_eq_false hs1];simp)];rfl
     ·rw [if_neg ht,bF (by rw [e,decide_eq_false ht];simp)];rfl
    ·rw [if_neg hf,bF (by rw [e,decide_eq_false hf];simp)];rfl
   ·rw [if_neg (by omega),bF (by rw [e,decide_eq_false h0];rfl)];rfl
  ·unfold dL
   simp only
   rw [if_neg (by omega)];rfl
 rw [ri] at key
 change obnd (ao _ (((0:Nat):Int),[])) _=_
 rw [key];rfl
def oR (s:GShow)(x:GState)(j:Nat):List Int:=sel (bN ((2^(enL s x).length - 1 - j:Nat):Int)) (enL s x) (enL s x).length
def decL (s:GShow)(x:GState):List (List Int):=(List.range (2^(enL s x).length)).map (oR s x)
theorem vk {s:GShow}(hR:sq s)(x:GState):(enL s x).length≤7:=by
 have:=lb (enAt s x) s.nodes.length
 have:=hR.nodes
 unfold enL;omega
theorem EG {s:GShow}{x:GState}(hs:ce s)(h:MomR s x):gY s x=some (decL s x):=by
 have h7:=vk h.right x
 have hpow:=sw h7
 have hpos:0<2^(enL s x).length:=Nat.pow_pos (by omega)
 unfold gY
 rw [Hw hs h]
 simp only [obnd]
 rw [am (by omega),rN h7]
 unfold decL
 have hd:∀ j,oR s x j=sel (bN ((2^(enL s x).length - 1 - j:Nat):Int)) (enL s x) (enL s x).length:=fun _=>rfl
 generalize 2^(enL s x).length=q at *
 rw [wr (by omega) (by omega)]
 have key:ao (eG (enL s x)) ((q:Int) - 1 - ((0:Nat):Int),(List.range 0).map (oR s x))=some ((List.range q).map (oR s x)):=by
  refine aG q (fun i=>((q:Int) - 1 - (i:Int),(List.range i).map (oR s x))) ?_ ?_
  ·intro i hi
   unfold eG
   simp only
   rw [if_pos (by omega),zt _ _ (by omega),wr (by omega) (by omega)]
   simp only [obnd]
   rw [am (by simp;omega),am (by simp;omega),lc,hd i,show (((q - 1 - i:Nat)):Int)=(q:Int) - 1 - (i:Int) by omega,show (q:Int) - 1 - (i:Int) - 1=(q:Int) - 1 - ((i+1:Nat):Int) by omega]
  ·unfold eG
   simp only
   rw [if_neg (by omega)]
 simp only [List.range_zero,List.map_nil,Int.natCast_zero,Int.sub_zero] at key
 rw [key]
theorem FN {s:GShow}{x:GState}(hs:ce s)(h:MomR s x):ir s x=some true:=by
 have hh:=h.right.hor
 have hn:=h.now
 have h7:=h.right.nodes
 have hln:=h.len
 have hv:=(eZ h.val).1
 unfold ir
 rw [fW,decide_eq_true (by omega)]
 simp only [obnd,if_true]
 rw [kk s hs,h.ok]
 simp only [if_true]
 rw [if_neg (by omega),pW x (by omega) (by omega)]
 simp only
 rw [wr (by omega) (by omega)]
 change obnd (eU s (Dv x)) _=_
 rw [qu s (Dv x) hs (by show x.times.length≤_;omega) (by show x.values.length≤_;omega),h.nxt];rfl
theorem AQ {s:GShow}{x:GState}(hs:ce s)(h:MomR s x):fq s x=some (decL s x):=by
 have h7:=vk h.right x
 have hpow:=sw h7
 have hpos:0<2^(enL s x).length:=Nat.pow_pos (by omega)
 unfold fq
 rw [FN hs h]
 simp only [obnd,if_true]
 rw [CC hs h]
 simp only
 rw [wru (by omega),am (by omega),Int.toNat_natCast,rN h7]
 unfold decL
 have hd:∀ j,oR s x j=sel (bN ((2^(enL s x).length - 1 - j:Nat):Int)) (enL s x) (enL s x).length:=fun _=>rfl
 generalize 2^(enL s x).length=q at *
 rw [wr (by omega) (by omega)]
 have key:ao (dx (enL s x)) ((q:Int) - 1 - ((0:Nat):Int),(List.range 0).map (oR s x))=some ((List.range q).map (oR s x)):=by
  refine aG q (fun i=>((q:Int) - 1 - (i:Int),(List.range i).map (oR s x))) ?_ ?_
  ·intro i hi
   unfold dx
   simp only
   rw [if_pos (by omega),zu _ _ (by omega),wr (by omega) (by omega)]
   simp only [obnd]
   rw [am (by simp;omega),am (by simp;omega),lc,hd i,show (((q - 1 - i:Nat)):Int)=(q:Int) - 1 - (i:Int) by omega,show (q:Int) - 1 - (i:Int) - 1=(q:Int) - 1 - ((i+1:Nat):Int) by omega]
  ·unfold dx
   simp only
   rw [if_neg (by omega)]
 simp only [List.range_zero,List.map_nil,Int.natCast_zero,Int.sub_zero] at key
 rw [key]
theorem pX {s:GShow}{x:GState}{k:Int}(h:k∈enL s x):∃ i,i<s.nodes.length∧k=(i:Int)∧0<i∧tm x.times (i:Int)=-1:=by
 obtain ⟨i,hi,hp,rfl⟩:=pU.1 h
 unfold enAt chAt opAt at hp
 simp only [Bool.and_eq_true,decide_eq_true_eq] at hp
 exact ⟨i,hi,rfl,hp.1.1,hp.2.1⟩
theorem qW {s:GShow}{x:GState}(hR:sq s){nodes:List Int}(h:nodes∈decL s x):Asc nodes∧nodes.length≤7∧∀ k,k∈nodes→k∈enL s x:=by
 unfold decL at h
 rw [List.mem_map] at h
 obtain ⟨j,_,rfl⟩:=h
 have h7:=vk hR x
 have:=rK (bN ((2^(enL s x).length - 1 - j:Nat):Int)) (enL s x) (enL s x).length
 exact ⟨AO (pV _ _) _ (Nat.le_refl _),by unfold oR;omega,fun k hk=>Ey hk⟩
theorem EH {s:GShow}(hR:sq s)(x:GState):(decL s x).length≤128:=by
 unfold decL
 simpa using sw (vk hR x)
def rO (s:GShow)(k:Int):Int:=((s.nodes[k.toNat]?).map (fun n=>n.watch)).getD 0
def ca (s:GShow)(p:Int):Int:=aO s.nodes (fun n=>decide (n.watch=p))
def aR (s:GShow)(nodes:List Int):List Int:=[1,2,3].filter (fun p=>decide (ca s p∈nodes))
def decX (x:GState)(nodes:List Int):GState:=⟨x.now,bb (fun k=>k) x.now nodes x.times,x.values⟩
theorem zA {s:GShow}(hok:aQ s=true){i j:Nat}(hi:i<s.nodes.length)(hj:j<s.nodes.length)(h:s.nodes[i].watch=s.nodes[j].watch)(h0:s.nodes[i].watch≠0):i=j:=by
 have key:∀ {i j:Nat} (hi:i<s.nodes.length) (hj:j<s.nodes.length),s.nodes[i].watch=s.nodes[j].watch→s.nodes[j].watch≠0→¬ i<j:=by
  intro i j hi hj he hn hlt
  unfold aQ iO at hok
  simp only [Bool.and_eq_true,decide_eq_true_eq] at hok
  have hp:=hok.1.1.1.1.2 j hj
  rw [qy hj,Bool.and_eq_true] at hp
  have hE:=hp.2
  unfold qd at hE
  rw [List.all_eq_true] at hE
  have:=hE s.nodes[i] (List.mem_take_iff_getElem.2 ⟨i,by omega,rfl⟩)
  simp only [Bool.and_eq_true,Bool.or_eq_true,Bool.not_eq_true',decide_eq_false_iff_not,decide_eq_true_eq] at this
  rcases this.2 with h1 | h1
  ·exact hn h1
  ·exact h1 he
 rcases Nat.lt_trichotomy i j with hlt | he | hlt
 ·exact absurd hlt (key hi hj h (by rw [← h];exact h0))
 ·exact he
 ·exact absurd hlt (key hj hi h.symm h0)
theorem Hx {s:GShow}(hok:aQ s=true){i:Nat}(hi:i<s.nodes.length)(h0:s.nodes[i].watch≠0):ca s s.nodes[i].watch=(i:Int):=by
 unfold ca
 have h1:0≤aO s.nodes (fun n=>decide (n.watch=s.nodes[i].watch)):=by
  have:=nn (xs:=s.nodes) (q:=fun n=>decide (n.watch=s.nodes[i].watch))
  have h2:s.nodes.any (fun n=>decide (n.watch=s.nodes[i].watch))=true:=List.any_eq_true.2 ⟨_,List.getElem_mem hi,by simp⟩
  rw [h2] at this
  exact of_decide_eq_true this
 obtain ⟨j,hj,e,hq,_⟩:=jF h1
 rw [e,zA hok hj hi (of_decide_eq_true hq) (by rw [of_decide_eq_true hq];exact h0)]
theorem lf {s:GShow}{i:Nat}(hi:i<s.nodes.length):rO s (i:Int)=s.nodes[i].watch:=by
 unfold rO
 rw [Int.toNat_natCast,List.getElem?_eq_getElem hi];rfl
def wl (s:GShow)(nodes:List Int):List Int:=(nodes.map (rO s)).filter (fun p=>!decide (p=0))
theorem IU (s:GShow)(nodes:List Int):Asc (aR s nodes):=by
 have:Asc [1,2,3]:=by unfold Asc;decide
 exact this.filter _
theorem Kk {s:GShow}{x:GState}(hok:aQ s=true){nodes:List Int}(ha:Asc nodes)(hn:∀ k,k∈nodes→k∈enL s x):(wl s nodes).Nodup∧∀ p,p∈wl s nodes↔p∈aR s nodes:=by
 constructor
 ·unfold wl
  rw [List.filter_map]
  unfold List.Nodup
  rw [List.pairwise_map]
  refine List.Pairwise.imp_of_mem ?_ (ha.filter _)
  intro a b h1 h2 hab he
  rw [List.mem_filter] at h1 h2
  obtain ⟨i,hi,rfl,_,_⟩:=pX (hn _ h1.1)
  obtain ⟨j,hj,rfl,_,_⟩:=pX (hn _ h2.1)
  have h3:=h1.2
  simp only [Function.comp,Bool.not_eq_true',decide_eq_false_iff_not] at h3
  rw [lf hi,lf hj] at he
  rw [lf hi] at h3
  have:=zA hok hi hj he h3
  omega
 ·intro p
  unfold wl aR
  rw [List.mem_filter,List.mem_filter,List.mem_map]
  simp only [Bool.not_eq_true',decide_eq_false_iff_not,decide_eq_true_eq]
  constructor
  ·rintro ⟨⟨k,hk,rfl⟩,h0⟩
   obtain ⟨i,hi,rfl,_,_⟩:=pX (hn _ hk)
   rw [lf hi] at h0 ⊢
   have hw:=(EE hok hi).2
   refine ⟨?_,?_⟩
   ·simp only [List.mem_cons,List.not_mem_nil,or_false];omega
   ·rw [Hx hok hi h0];exact hk
  ·rintro ⟨h3,hw⟩
   obtain ⟨i,hi,e,_,_⟩:=pX (hn _ hw)
   have h0:0≤ca s p:=by omega
   obtain ⟨j,hj,e2,hq,_⟩:=jF h0
   have hwp:=of_decide_eq_true hq
   unfold ca at hw
   rw [e2] at hw
   refine ⟨⟨(j:Int),hw,by rw [lf hj];exact hwp⟩,?_⟩
   simp only [List.mem_cons,List.not_mem_nil,or_false] at h3
   omega
theorem BP (s:GShow)(nodes:List Int):(aR s nodes).length≤3:=by
 have:=List.length_filter_le (fun p=>decide (ca s p∈nodes)) [1,2,3]
 simpa [aR] using this
theorem iL {s:GShow}{nodes:List Int}{p:Int}(h:p∈aR s nodes):1≤p∧p≤3∧ca s p∈nodes:=by
 unfold aR at h
 rw [List.mem_filter] at h
 simp only [List.mem_cons,List.not_mem_nil,or_false,decide_eq_true_eq] at h
 exact ⟨by omega,by omega,h.2⟩
theorem Hy {s:GShow}{x:GState}(h:MomR s x){nodes:List Int}(ha:Asc nodes)(hl7:nodes.length≤7)(hn:∀ k,k∈nodes→k∈enL s x):jv s x nodes=some (decX x nodes,aR s nodes):=by
 have h7:=h.right.nodes
 have hln:=h.len
 have hv:=(eZ h.val).1
 unfold jv
 rw [qv x (by omega) (by omega)]
 simp only [obnd]
 have key:ao (gn nodes ((nodes.length:Nat):Int) s.nodes s.ties s.horizon x.now x.times x.values x.now x.values) (((0:Nat):Int),wl s (nodes.take 0),bb (fun k=>k) x.now (nodes.take 0) x.times)=some (wl s nodes,bb (fun k=>k) x.now nodes x.times):=by
  refine aG nodes.length (fun i=>((i:Int),wl s (nodes.take i),bb (fun k=>k) x.now (nodes.take i) x.times)) ?_ ?_
  ·intro i hi
   obtain ⟨j,hj,e,_,_⟩:=pX (hn _ (List.getElem_mem hi))
   have hwl:(wl s (nodes.take i)).length≤7:=by
    have:=List.length_filter_le (fun p=>!decide (p=0)) ((nodes.take i).map (rO s))
    rw [List.length_map,List.length_take] at this
    unfold wl;omega
   have hw1:wl s (nodes.take (i+1))=wl s (nodes.take i)++(if s.nodes[j].watch=0 then [] else [s.nodes[j].watch]):=by
    unfold wl
    rw [List.take_succ_eq_append_getElem hi,List.map_append,List.filter_append,e]
    simp only [List.map_cons,List.map_nil]
    rw [lf hj]
    by_cases h0:s.nodes[j].watch=0 <;> simp [h0]
   unfold gn
   simp only
   rw [if_pos (by omega),aA hi,e]
   simp only [obnd]
   rw [fS (ts:=bb (fun k=>k) x.now (nodes.take i) x.times) (by omega) (by rw [df];omega),aA hj,wr (x:=(i:Int)+1) (by omega) (by omega)]
   simp only
   rw [am (by omega),am (by omega),hw1,List.take_succ_eq_append_getElem hi,oQ,e]
   by_cases h0:s.nodes[j].watch=0
   ·rw [if_pos h0,if_pos h0,List.append_nil];rfl
   ·rw [if_neg h0,if_neg h0];rfl
  ·unfold gn
   simp only
   rw [if_neg (by omega),List.take_length]
 rw [List.take_zero] at key
 change obnd (ao _ (((0:Nat):Int),wl s [],bb (fun k=>k) x.now [] x.times)) _=_
 rw [key]
 simp only [obnd]
 have hwl:(wl s nodes).length≤7:=by
  have:=List.length_filter_le (fun p=>!decide (p=0)) (nodes.map (rO s))
  rw [List.length_map] at this
  unfold wl;omega
 obtain ⟨r,e,hp,hs⟩:=Gm (wl s nodes) (by omega)
 obtain ⟨w1,w2⟩:=Kk h.ok ha hn
 have er:r=aR s nodes:=AL (BK hs (hp.nodup_iff.2 w1)) (IU s nodes) (fun y=>by rw [hp.mem_iff,w2])
 rw [e]
 simp only
 rw [am hp.length_eq,er];rfl
theorem EI {s:GShow}{x:GState}(hs:ce s)(h:MomR s x){nodes:List Int}(hl7:nodes.length≤7)(hn:∀ k,k∈nodes→k∈enL s x):gR s x nodes=some (decX x nodes,aR s nodes):=by
 have h7:=h.right.nodes
 have hln:=h.len
 have hv:=(eZ h.val).1
 unfold gR
 rw [pW x (by omega) (by omega)]
 simp only [obnd]
 have key:ao (ey nodes ((nodes.length:Nat):Int) s.nodes s.ties s.horizon x.now x.times x.values x.now x.values) (((0:Nat):Int),bb (fun k=>k) x.now (nodes.take 0) x.times)=some (bb (fun k=>k) x.now nodes x.times):=by
  refine aG nodes.length (fun i=>((i:Int),bb (fun k=>k) x.now (nodes.take i) x.times)) ?_ ?_
  ·intro i hi
   obtain ⟨j,hj,e,_,_⟩:=pX (hn _ (List.getElem_mem hi))
   unfold ey
   simp only
   rw [if_pos (by omega),aA hi,e]
   simp only [obnd]
   rw [fS (ts:=bb (fun k=>k) x.now (nodes.take i) x.times) (by omega) (by rw [df];omega),wr (x:=(i:Int)+1) (by omega) (by omega),List.take_succ_eq_append_getElem hi,oQ,e];rfl
  ·unfold ey
   simp only
   rw [if_neg (by omega),List.take_length]
 rw [List.take_zero] at key
 change obnd (ao _ (((0:Nat):Int),bb (fun k=>k) x.now [] x.times)) _=_
 rw [key]
 simp only [obnd]
 have key2:ao (ez nodes s.nodes s.ties s.horizon x.now (bb (fun k=>k) x.now nodes x.times) x.values) (((0:Nat):Int)+1,([1,2,3].take 0).filter (fun p=>decide (ca s p∈nodes)))=some (aR s nodes):=by
  refine aG 3 (fun i=>((i:Int)+1,([1,2,3].take i).filter (fun p=>decide (ca s p∈nodes)))) ?_ ?_
  ·intro i hi
   have hl:=List.length_filter_le (fun p=>decide (ca s p∈nodes)) ([1,2,3].take i)
   rw [List.length_take] at hl
   have e3:([1,2,3]:List Int)[i]'(by simpa using hi)=(i:Int)+1:=by
    have:i=0∨i=1∨i=2:=by omega
    rcases this with rfl | rfl | rfl <;> rfl
   unfold ez
   simp only
   rw [if_pos (by omega),show (GShow.mk s.nodes s.ties s.horizon)=s from rfl,mf s _ hs.nodes]
   simp only [obnd]
   rw [pv _ _ (by unfold Cnt;omega),wr (x:=(i:Int)+1+1) (by omega) (by omega),am (by omega),am (by omega),lO _ (by simpa using hi),e3]
   simp only
   change (if decide (ca s ((i:Int)+1)∈nodes)=true then _ else _)=_
   cases decide (ca s ((i:Int)+1)∈nodes)
   ·rw [if_neg (by simp),if_neg (by simp),List.append_nil];rfl
   ·rw [if_pos rfl,if_pos rfl];rfl
  ·unfold ez
   simp only
   rw [if_neg (by omega)];rfl
 simp only [List.take_zero,List.filter_nil,Int.natCast_zero,Int.zero_add] at key2
 rw [key2];rfl
def setV (ps vs v:List Int)(n:Nat):List Int:=(List.range n).foldl (fun v i=>v.set (ps.getD i 0 - 1).toNat (vs.getD i 0)) v
theorem mS (ps vs v:List Int)(n:Nat):setV ps vs v (n+1)=(setV ps vs v n).set (ps.getD n 0 - 1).toNat (vs.getD n 0):=by
 unfold setV
 rw [List.range_succ,List.foldl_append];rfl
theorem oH (ps vs v:List Int):∀ n,(setV ps vs v n).length=v.length
 | 0=>rfl
 | n+1=>by rw [mS,List.length_set,oH ps vs v n]
def obsX (x:GState)(ps vs:List Int):GState:=⟨x.now+1,x.times,setV ps vs x.values ps.length⟩
theorem wF (x:GState)(ps vs:List Int)(hn:0≤x.now∧x.now≤1000)(h1:x.times.length≤1048576)(h2:x.values.length=3)(hp:∀ p,p∈ps→1≤p∧p≤3)(hl:vs.length=ps.length)(hl2:ps.length≤1000) :
  iA x ps vs=some (obsX x ps vs)∧gS x ps vs=some (obsX x ps vs):=by
 have pb:∀ i,i<ps.length→1≤ps.getD i 0∧ps.getD i 0≤3:=by
  intro i hi
  rw [List.getD_eq_getElem?_getD,List.getElem?_eq_getElem hi]
  exact hp _ (List.getElem_mem hi)
 constructor
 ·unfold iA
  rw [qv x h1 (by omega)]
  simp only [obnd]
  have key:ao (fw vs ps ((ps.length:Nat):Int) x.now x.times) (((0:Nat):Int),setV ps vs x.values 0)=some (setV ps vs x.values ps.length):=by
   refine aG ps.length (fun i=>((i:Int),setV ps vs x.values i)) ?_ ?_
   ·intro i hi
    have hb:=pb i hi
    unfold fw
    simp only
    rw [if_pos (by omega),bl hi,bl (by omega),wr (x:=(i:Int)+1) (by omega) (by omega)]
    simp only [obnd]
    rw [wr (x:=ps.getD i 0 - 1) (by omega) (by omega),fS (ts:=setV ps vs x.values i) (by omega) (by rw [oH];omega)]
    simp only
    rw [mS];rfl
   ·unfold fw
    simp only
    rw [if_neg (by omega)]
  change obnd (ao _ (((0:Nat):Int),setV ps vs x.values 0)) _=_
  rw [key]
  simp only [obnd]
  rw [wr (by omega) (by omega)];rfl
 ·unfold gS
  rw [pW x h1 (by omega)]
  simp only [obnd]
  have key:ao (eA vs ps ((ps.length:Nat):Int) x.now x.times) (((0:Nat):Int),setV ps vs x.values 0)=some (setV ps vs x.values ps.length):=by
   refine aG ps.length (fun i=>((i:Int),setV ps vs x.values i)) ?_ ?_
   ·intro i hi
    have hb:=pb i hi
    unfold eA
    simp only
    rw [if_pos (by omega),bl hi,bl (by omega),wr (x:=(i:Int)+1) (by omega) (by omega)]
    simp only [obnd]
    rw [wr (x:=ps.getD i 0 - 1) (by omega) (by omega),fS (ts:=setV ps vs x.values i) (by omega) (by rw [oH];omega)]
    simp only
    rw [mS];rfl
   ·unfold eA
    simp only
    rw [if_neg (by omega)]
  change obnd (ao _ (((0:Nat):Int),setV ps vs x.values 0)) _=_
  rw [key]
  simp only [obnd]
  rw [wr (by omega) (by omega)];rfl
theorem AR {ps vs v:List Int}(hv:v.length=3)(hp:∀ p,p∈ps→1≤p∧p≤3):∀ n,n≤ps.length→∀ k:Int,0≤k→(∀ i,i<n→ps.getD i 0 - 1≠k)→tm (setV ps vs v n) k=tm v k
 | 0,_,k,_,_=>rfl
 | n+1,hn,k,hk,h=>by
  rw [mS]
  have hb:=hp (ps.getD n 0) (by rw [List.getD_eq_getElem?_getD,List.getElem?_eq_getElem (show n<ps.length by omega)];exact List.getElem_mem _)
  rw [EC _ _ _ _ (by omega) (by rw [oH];omega) hk,if_neg (fun e=>h n (by omega) e.symm)]
  exact AR hv hp n (by omega) k hk (fun i hi=>h i (by omega))
theorem Gs {ps vs v:List Int}(hv:v.length=3)(hp:∀ p,p∈ps→1≤p∧p≤3)(hl:vs.length=ps.length):∀ n,n≤ps.length→∀ k:Int,0≤k→(∃ i,i<n∧ps.getD i 0 - 1=k)→tm (setV ps vs v n) k∈vs
 | 0,_,k,_,h=>by obtain ⟨i,hi,_⟩:=h;omega
 | n+1,hn,k,hk,h=>by
  rw [mS]
  have hb:=hp (ps.getD n 0) (by rw [List.getD_eq_getElem?_getD,List.getElem?_eq_getElem (show n<ps.length by omega)];exact List.getElem_mem _)
  rw [EC _ _ _ _ (by omega) (by rw [oH];omega) hk]
  by_cases e:k=ps.getD n 0 - 1
  ·rw [if_pos e,List.getD_eq_getElem?_getD,List.getElem?_eq_getElem (show n<vs.length by omega)]
   exact List.getElem_mem _
  ·rw [if_neg e]
   obtain ⟨i,hi,he⟩:=h
   exact Gs hv hp hl n (by omega) k hk ⟨i,by rcases Nat.lt_or_ge i n with h1 | h1;exact h1;exact absurd (by rw [← he,show i=n by omega]) e,he⟩
theorem EJ {ps vs v:List Int}{y:Int}:∀ n,y∈setV ps vs v n→y∈v∨∃ i,i<n∧y=vs.getD i 0
 | 0,h=>.inl h
 | n+1,h=>by
  rw [mS] at h
  rcases List.mem_or_eq_of_mem_set h with h | h
  ·rcases EJ n h with h | ⟨i,hi,h⟩
   ·exact .inl h
   ·exact .inr ⟨i,by omega,h⟩
  ·exact .inr ⟨n,by omega,h⟩
theorem Ov {s:GShow}{x:GState}(h:MomR s x){nodes:List Int}(hn:∀ k,k∈nodes→k∈enL s x){vs:List Int}(hl:vs.length=(aR s nodes).length)(hv:∀ v,v∈vs→v=1∨v=-1) :
  aM s (obsX (decX x nodes) (aR s nodes) vs)=true:=by
 have h7:=h.right.nodes
 have hln:=h.len
 obtain ⟨v1,v2⟩:=eZ h.val
 have hnx:=h.nxt
 have hp:∀ p,p∈aR s nodes→1≤p∧p≤3:=fun p hp=>⟨(iL hp).1,(iL hp).2.1⟩
 have htm:∀ {i:Int},0≤i→tm (bb (fun k=>k) x.now nodes x.times) i=if i∈nodes then x.now else tm x.times i:=by
  intro i hi
  rw [ui _ _ _ _ _ hi (fun k hk=>by obtain ⟨j,hj,e,_,_⟩:=pX (hn k hk);omega),List.map_id']
 unfold aM at hnx
 simp only [Bool.and_eq_true,decide_eq_true_eq] at hnx
 obtain ⟨⟨⟨⟨⟨a1,a2⟩,a3⟩,a4⟩,a5⟩,a6⟩:=hnx
 have hT:(obsX (decX x nodes) (aR s nodes) vs).times=bb (fun k=>k) x.now nodes x.times:=rfl
 have hN:(obsX (decX x nodes) (aR s nodes) vs).now=x.now+1:=rfl
 have hV:(obsX (decX x nodes) (aR s nodes) vs).values=setV (aR s nodes) vs x.values (aR s nodes).length:=rfl
 unfold aM
 simp only [Bool.and_eq_true,decide_eq_true_eq]
 refine ⟨⟨⟨⟨⟨h.ok,?_⟩,?_⟩,?_⟩,?_⟩,?_⟩
 ·rw [hN];have:=h.now;omega
 ·rw [hT,df];exact hln
 ·rw [hV]
  unfold dl
  rw [Bool.and_eq_true,decide_eq_true_eq,List.all_eq_true,oH]
  refine ⟨v1,?_⟩
  intro y hy
  rcases EJ _ hy with h1 | ⟨i,hi,rfl⟩
  ·exact decide_eq_true (v2 y h1)
  ·have:=hv (vs.getD i 0) (by rw [List.getD_eq_getElem?_getD,List.getElem?_eq_getElem (show i<vs.length by omega)];exact List.getElem_mem _)
   exact decide_eq_true (by omega)
 ·intro i hi
  rw [hT,df] at hi
  have h5:=a5 i hi
  unfold mc at h5 ⊢
  rw [hT,hN]
  change (if i=0 then decide (tm x.times 0=0) else decide (-1≤tm x.times i∧tm x.times i≤x.now+1 - 1))=true at h5
  by_cases h0:i=0
  ·rw [if_pos h0] at h5 ⊢
   rw [htm (Int.le_refl 0),if_neg (fun hm=>by obtain ⟨j,_,e,hj,_⟩:=pX (hn _ hm);omega)]
   exact h5
  ·rw [if_neg h0] at h5 ⊢
   rw [decide_eq_true_eq] at h5 ⊢
   rw [htm (by omega)]
   have:=h.now
   split <;> omega
 ·intro i hi
  have h6:=a6 i hi
  unfold lN at h6 ⊢
  rw [hT,hV]
  change (decide (tm x.values i≠0) == (decide (0≤ca s ((i:Int)+1))&&decide (tm x.times (ca s ((i:Int)+1))≠-1)))=true at h6
  change (decide (tm (setV (aR s nodes) vs x.values (aR s nodes).length) i≠0) == (decide (0≤ca s ((i:Int)+1))&&decide (tm (bb (fun k=>k) x.now nodes x.times) (ca s ((i:Int)+1))≠-1)))=true
  by_cases hw:0≤ca s ((i:Int)+1)
  ·rw [decide_eq_true hw,Bool.true_and,htm hw]
   rw [decide_eq_true hw,Bool.true_and] at h6
   by_cases hm:ca s ((i:Int)+1)∈nodes
   ·rw [if_pos hm,decide_eq_true (show x.now≠-1 by have:=h.now;omega)]
    have hpm:(i:Int)+1∈aR s nodes:=by
     unfold aR
     rw [List.mem_filter]
     unfold nT at hi
     refine ⟨?_,decide_eq_true hm⟩
     simp only [List.mem_cons,List.not_mem_nil,or_false]
     omega
    obtain ⟨j,hj,e⟩:=List.getElem_of_mem hpm
    have hin:=Gs v1 hp hl _ (Nat.le_refl _) (i:Int) (by omega) ⟨j,hj,by rw [List.getD_eq_getElem?_getD,List.getElem?_eq_getElem hj,e,Option.getD_some];omega⟩
    have:=hv _ hin
    rw [decide_eq_true (show tm (setV (aR s nodes) vs x.values (aR s nodes).length) i≠0 by omega)];rfl
   ·rw [if_neg hm,AR v1 hp _ (Nat.le_refl _) _ (by omega)]
    ·exact h6
    ·intro j hj he
     refine hm ?_
     have:=(iL (s:=s) (nodes:=nodes) (p:=(aR s nodes).getD j 0) (by rw [List.getD_eq_getElem?_getD,List.getElem?_eq_getElem hj];exact List.getElem_mem _)).2.2
     rwa [show (aR s nodes).getD j 0=(i:Int)+1 by omega] at this
  ·rw [decide_eq_false hw] at h6 ⊢
   rw [AR v1 hp _ (Nat.le_refl _) _ (by omega)]
   ·simpa using h6
   ·intro j hj he
    have:=(iL (s:=s) (nodes:=nodes) (p:=(aR s nodes).getD j 0) (by rw [List.getD_eq_getElem?_getD,List.getElem?_eq_getElem hj];exact List.getElem_mem _)).2.2
    rw [show (aR s nodes).getD j 0=(i:Int)+1 by omega] at this
    obtain ⟨q,hq,e,_,_⟩:=pX (hn _ this)
    omega
end Go.Proofs.Qa
set_option maxRecDepth 100000
namespace Go.Proofs.Qa
open Go
def lg:GState:=⟨0,[],[]⟩
def sgn (x:Int):Int:=if x<0 then -1 else 1
def rP (s:GShow)(x:GState)(e:GEntry):Prop:=e.now=x.now∧e.ties∈nU s x∧bn e.values=true∧e.nodes∈decL s (endX s x e.ties)∧e.values.map pr=aR s e.nodes
noncomputable instance (s:GShow) (x:GState) (e:GEntry):Decidable (rP s x e):=Classical.propDecidable _
noncomputable def dG (s:GShow)(x:GState)(e:GEntry):GState × Bool:=
 if rP s x e then (obsX (decX (endX s x e.ties) e.nodes) (aR s e.nodes) (e.values.map sgn),true) else (lg,false)
theorem EK {x:Int}(h0:x≠0)(h1:-3≤x)(h2:x≤3):(0≤x→pr x=x)∧(x<0→pr x=0 - x)∧Int.tdiv x (pr x)=sgn x∧IntKind.wrap .i64 (Int.tdiv x (pr x))=sgn x:=by
 have key:∀ y:Int,y=-3∨y=-2∨y=-1∨y=1∨y=2∨y=3→(0≤y→pr y=y)∧(y<0→pr y=0 - y)∧Int.tdiv y (pr y)=sgn y∧IntKind.wrap .i64 (Int.tdiv y (pr y))=sgn y:=by
  intro y hy
  rcases hy with rfl | rfl | rfl | rfl | rfl | rfl <;> decide
 exact key x (by omega)
theorem sA {l:List Int}(h:bn l=true){x:Int}(hx:x∈l):x≠0∧-3≤x∧x≤3∧1≤pr x∧pr x≤3:=by
 obtain ⟨h1,h2,h3⟩:=EX h hx
 have h4:=ED h2 h3
 refine ⟨?_,h2,h3,by omega,h4⟩
 rintro rfl
 have:pr 0=0:=rfl
 omega
theorem Gt {l:List Int}(h:bn l=true)(hc:l.length≤1048576):l.length≤3:=by
 have hasc:Asc (l.map pr):=by
  unfold Asc
  rw [List.pairwise_iff_getElem]
  intro i j hi hj hij
  rw [List.length_map] at hi hj
  simp only [List.getElem_map]
  have hl:=h
  unfold bn at hl
  rw [decide_eq_true_eq] at hl
  have step:∀ n (hn:n+1<l.length),pr (l[n]'(by omega))<pr l[n+1]:=by
   intro n hn
   have:=hl (n+1) hn
   unfold labP at this
   rw [decide_eq_true_eq] at this
   have:=this.2.2.2 (by omega)
   rw [List.getD_eq_getElem?_getD,List.getD_eq_getElem?_getD,show n+1 - 1=n by omega,List.getElem?_eq_getElem (by omega),List.getElem?_eq_getElem hn] at this
   exact this
  have mono:∀ k,∀ hk:i+k+1<l.length,pr (l[i]'(by omega))<pr l[i+k+1]:=by
   intro k
   induction k with
   | zero=>intro hk;exact step i hk
   | succ k ih=>
    intro hk
    have h1:=ih (by omega)
    have h2:=step (i+k+1) hk
    show pr l[i]<pr l[i+k+1+1]
    omega
  have:=mono (j - i - 1) (by omega)
  have e:i+(j - i - 1)+1=j:=by omega
  simp only [e] at this
  exact this
 have:=uh (r:=[1,2,3]) hasc.nodup (fun y hy=>by
  rw [List.mem_map] at hy
  obtain ⟨x,hx,rfl⟩:=hy
  obtain ⟨_,_,_,h1,h2⟩:=sA h hx
  simp only [List.mem_cons,List.not_mem_nil,or_false]
  omega)
 simpa using this
theorem oS {s:GShow}{x:GState}(h:aM s x=true):aQ s=true∧x.values.length=3∧x.times.length≤7:=by
 have hR:=de h
 have hl:=hR.len
 have h7:=hR.right.nodes
 unfold aM at h
 simp only [Bool.and_eq_true] at h
 exact ⟨h.1.1.1.1.1,(eZ h.1.1.2).1,by omega⟩
theorem Hz {s:GShow}{x:GState}{e:GEntry}(hs:ce s)(hx:aM s x=true)(he:FitE e):kP s x e=some (dG s x e):=by
 obtain ⟨hok,hv3,ht7⟩:=oS hx
 have e1:=he.ties
 have e2:=he.nodes
 have e3:=he.values
 have hel:=BO hok (x:=x)
 unfold kP
 have no:¬ rP s x e→some ((GState.mk 0 ([]) ([])),false)=some (dG s x e):=fun h=>by unfold dG;rw [if_neg h];rfl
 by_cases h1:e.now=x.now
 ·rw [if_pos h1,Hu hx]
  simp only [obnd]
  rw [EB _ _ (by unfold Cnt;omega) (by unfold Cnt;omega)]
  simp only
  by_cases h2:e.ties∈nU s x
  ·rw [if_pos (decide_eq_true h2),kS _ (by unfold Cnt;omega)]
   simp only
   obtain ⟨a1,a2,a3⟩:=sx hok h2
   have hm:=uk (xj hx a1 a3)
   by_cases h3:bn e.values=true
   ·rw [if_pos h3,Kj hx (by omega) (by omega) a3]
    simp only
    rw [EG hs hm]
    simp only
    have hdl:=EH hm.right (endX s x e.ties)
    rw [EB _ _ (by unfold Cnt;omega) (by unfold Cnt;omega)]
    simp only
    by_cases h4:e.nodes∈decL s (endX s x e.ties)
    ·rw [if_pos (decide_eq_true h4)]
     obtain ⟨b1,b2,b3⟩:=qW hm.right h4
     rw [Hy hm b1 b2 b3]
     simp only
     have hl3:=Gt h3 e3
     have key:ao (iB e.values ((e.values.length:Nat):Int) (decX (endX s x e.ties) e.nodes).now (decX (endX s x e.ties) e.nodes).times (decX (endX s x e.ties) e.nodes).values (aR s e.nodes)) (((0:Nat):Int),(e.values.take 0).map pr,(e.values.take 0).map sgn)=some (e.values.map pr,e.values.map sgn):=by
      refine aG e.values.length (fun i=>((i:Int),(e.values.take i).map pr,(e.values.take i).map sgn)) ?_ ?_
      ·intro i hi
       obtain ⟨v1,v2,v3,v4,v5⟩:=sA h3 (List.getElem_mem hi)
       obtain ⟨_,_,_,w4⟩:=EK v1 v2 v3
       unfold iB
       simp only
       rw [if_pos (by omega),aA hi]
       simp only [obnd]
       rw [pu]
       simp only
       rw [am (by rw [List.length_map,List.length_take];omega),am (by rw [List.length_map,List.length_take];omega),am (by omega),am (by rw [List.length_map,List.length_take];omega),am (by rw [List.length_map,List.length_take];omega),wr (x:=(i:Int)+1) (by omega) (by omega),w4,List.take_succ_eq_append_getElem hi,List.map_append,List.map_append];rfl
      ·unfold iB
       simp only
       rw [if_neg (by omega),List.take_length]
     simp only [List.take_zero,List.map_nil,Int.natCast_zero] at key
     rw [key]
     simp only
     rw [ut _ _ (by unfold Cnt;rw [List.length_map];omega)]
     simp only
     by_cases h5:e.values.map pr=aR s e.nodes
     ·rw [if_pos (decide_eq_true h5)]
      have hnow:=hm.now
      have hh:=hm.right.hor
      have hpl:=BP s e.nodes
      have hn:0≤(decX (endX s x e.ties) e.nodes).now∧(decX (endX s x e.ties) e.nodes).now≤1000:=by
       show 0≤(endX s x e.ties).now∧(endX s x e.ties).now≤1000
       omega
      have hobs:=(wF (decX (endX s x e.ties) e.nodes) (aR s e.nodes) (e.values.map sgn) hn (by show (bb _ _ _ (bb _ _ _ _)).length≤_;rw [df,df];omega) hv3 (fun p hp=>⟨(iL hp).1,(iL hp).2.1⟩) (by rw [← h5,List.length_map,List.length_map]) (by omega)).1
      rw [hobs]
      simp only
      unfold dG
      rw [if_pos ⟨h1,h2,h3,h4,h5⟩]
     ·rw [if_neg (by rw [decide_eq_false h5];simp)]
      exact no (fun h=>h5 h.2.2.2.2)
    ·rw [if_neg (by rw [decide_eq_false h4];simp)]
     exact no (fun h=>h4 h.2.2.2.1)
   ·rw [if_neg h3]
    exact no (fun h=>h3 h.2.2.1)
  ·rw [if_neg (by rw [decide_eq_false h2];simp)]
   exact no (fun h=>h2 h.2.1)
 ·rw [if_neg h1]
  exact no (fun h=>h1 h.1)
theorem HA {s:GShow}{x:GState}{e:GEntry}(hs:ce s)(hx:aM s x=true)(he:FitE e):dM s x e=some (dG s x e):=by
 obtain ⟨hok,hv3,ht7⟩:=oS hx
 have e1:=he.ties
 have e2:=he.nodes
 have e3:=he.values
 have hel:=BO hok (x:=x)
 unfold dM ex
 have no:¬ rP s x e→some ((GState.mk 0 ([]) ([])),false)=some (dG s x e):=fun h=>by unfold dG;rw [if_neg h];rfl
 rw [EA hs hx (by omega) (by omega)]
 simp only [obnd]
 rw [xi _ _ (by unfold Cnt;omega) (fun y hy=>by obtain ⟨_,h2,_⟩:=sx hok hy;unfold Cnt;omega)]
 simp only
 by_cases h2:e.ties∈nU s x
 ·rw [if_pos (decide_eq_true h2)]
  obtain ⟨a1,a2,a3⟩:=sx hok h2
  have hm:=uk (xj hx a1 a3)
  rw [IS hx (by omega) (by omega) a3]
  simp only [if_true]
  by_cases h1:e.now=x.now
  ·rw [if_pos h1,nW _ (by unfold Cnt;omega)]
   simp only
   by_cases h3:bn e.values=true
   ·rw [if_pos h3]
    unfold gA
    rw [AQ hs hm]
    simp only [obnd]
    have hdl:=EH hm.right (endX s x e.ties)
    rw [xi _ _ (by unfold Cnt;omega) (fun y hy=>by obtain ⟨_,h2,_⟩:=qW hm.right hy;unfold Cnt;omega)]
    simp only
    by_cases h4:e.nodes∈decL s (endX s x e.ties)
    ·rw [if_pos (decide_eq_true h4)]
     obtain ⟨b1,b2,b3⟩:=qW hm.right h4
     rw [EI hs hm b2 b3]
     simp only [if_true]
     have hl3:=Gt h3 e3
     have hpl:=BP s e.nodes
     by_cases h6:((aR s e.nodes).length:Int)=(e.values.length:Int)
     ·rw [if_pos h6]
      have key:ao (dy (((aR s e.nodes).length:Nat):Int) e.now e.ties e.nodes e.values (decX (endX s x e.ties) e.nodes).now (decX (endX s x e.ties) e.nodes).times (decX (endX s x e.ties) e.nodes).values (aR s e.nodes)) (((0:Nat):Int),(e.values.take 0).map sgn)=some (if ∀ i,i<e.values.length→decide (pr (e.values.getD i 0)=(aR s e.nodes).getD i 0)=true then .inl (e.values.map sgn) else .inr ((GState.mk 0 ([]) ([])),false)):=by
       refine cQ e.values.length (fun i=>((i:Int),(e.values.take i).map sgn)) (fun i=>decide (pr (e.values.getD i 0)=(aR s e.nodes).getD i 0)) ?_ ?_ ?_
       ·intro i hi hp
        rw [decide_eq_true_eq] at hp
        obtain ⟨v1,v2,v3,v4,v5⟩:=sA h3 (List.getElem_mem hi)
        obtain ⟨w1,w2,w3,w4⟩:=EK v1 v2 v3
        have ed:e.values.getD i 0=e.values[i]:=by rw [List.getD_eq_getElem?_getD,List.getElem?_eq_getElem hi];rfl
        rw [ed] at hp
        unfold dy
        simp only
        rw [if_pos (by omega),bl (show i<(aR s e.nodes).length by omega),aA hi]
        simp only [obnd]
        rw [← hp,am (by rw [List.length_map,List.length_take];omega),am (by rw [List.length_map,List.length_take];omega),wr (x:=(i:Int)+1) (by omega) (by omega),wr (x:=0 - pr e.values[i]) (by omega) (by omega),List.take_succ_eq_append_getElem hi,List.map_append]
        by_cases hneg:e.values[i]<0
        ·have:=w2 hneg
         rw [if_pos (by omega)]
         have es:sgn e.values[i]=-1:=by unfold sgn;rw [if_pos hneg]
         simp only [List.map_cons,List.map_nil,es];rfl
        ·have:=w1 (by omega)
         rw [if_neg (by omega),if_pos (by omega),am (by rw [List.length_map,List.length_take];omega),am (by rw [List.length_map,List.length_take];omega)]
         have es:sgn e.values[i]=1:=by unfold sgn;rw [if_neg hneg]
         simp only [List.map_cons,List.map_nil,es];rfl
       ·intro i hi hp
        rw [decide_eq_false_iff_not] at hp
        obtain ⟨v1,v2,v3,v4,v5⟩:=sA h3 (List.getElem_mem hi)
        obtain ⟨w1,w2,w3,w4⟩:=EK v1 v2 v3
        have ed:e.values.getD i 0=e.values[i]:=by rw [List.getD_eq_getElem?_getD,List.getElem?_eq_getElem hi];rfl
        rw [ed] at hp
        have hpm:=iL (s:=s) (nodes:=e.nodes) (p:=(aR s e.nodes).getD i 0) (by rw [List.getD_eq_getElem?_getD,List.getElem?_eq_getElem (show i<(aR s e.nodes).length by omega)];exact List.getElem_mem _)
        unfold dy
        simp only
        rw [if_pos (by omega),bl (show i<(aR s e.nodes).length by omega),aA hi]
        simp only [obnd]
        rw [wr (x:=0 - (aR s e.nodes).getD i 0) (by omega) (by omega)]
        by_cases hneg:e.values[i]<0
        ·have:=w2 hneg
         rw [if_neg (by omega),if_neg (by omega)]
        ·have:=w1 (by omega)
         rw [if_neg (by omega),if_neg (by omega)]
       ·unfold dy
        simp only
        rw [if_neg (by omega),List.take_length]
      simp only [List.take_zero,List.map_nil,Int.natCast_zero] at key
      rw [key]
      have heq:(∀ i,i<e.values.length→decide (pr (e.values.getD i 0)=(aR s e.nodes).getD i 0)=true)↔e.values.map pr=aR s e.nodes:=by
       constructor
       ·intro h
        refine List.ext_getElem (by rw [List.length_map];omega) ?_
        intro i hi1 hi2
        rw [List.length_map] at hi1
        have:=h i hi1
        rw [decide_eq_true_eq,List.getD_eq_getElem?_getD,List.getElem?_eq_getElem hi1,List.getD_eq_getElem?_getD,List.getElem?_eq_getElem hi2] at this
        simpa using this
       ·intro h i hi
        rw [decide_eq_true_eq,← h,List.getD_eq_getElem?_getD,List.getD_eq_getElem?_getD,List.getElem?_map,List.getElem?_eq_getElem hi];rfl
      by_cases h5:e.values.map pr=aR s e.nodes
      ·rw [if_pos (heq.2 h5)]
       simp only
       have hnow:=hm.now
       have hh:=hm.right.hor
       have hn:0≤(decX (endX s x e.ties) e.nodes).now∧(decX (endX s x e.ties) e.nodes).now≤1000:=by
        show 0≤(endX s x e.ties).now∧(endX s x e.ties).now≤1000
        omega
       have hobs:=(wF (decX (endX s x e.ties) e.nodes) (aR s e.nodes) (e.values.map sgn) hn (by show (bb _ _ _ (bb _ _ _ _)).length≤_;rw [df,df];omega) hv3 (fun p hp=>⟨(iL hp).1,(iL hp).2.1⟩) (by rw [← h5,List.length_map,List.length_map]) (by omega)).2
       rw [hobs]
       simp only
       unfold dG
       rw [if_pos ⟨h1,h2,h3,h4,h5⟩]
      ·rw [if_neg (fun h=>h5 (heq.1 h))]
       exact no (fun h=>h5 h.2.2.2.2)
     ·rw [if_neg h6]
      exact no (fun h=>h6 (by rw [← h.2.2.2.2,List.length_map]))
    ·rw [if_neg (by rw [decide_eq_false h4];simp)]
     simp only
     rw [if_neg (by simp)]
     exact no (fun h=>h4 h.2.2.2.1)
   ·rw [if_neg h3]
    exact no (fun h=>h3 h.2.2.1)
  ·rw [if_neg h1]
   exact no (fun h=>h1 h.1)
 ·rw [if_neg (by rw [decide_eq_false h2];simp)]
  simp only
  rw [if_neg (by simp)]
  exact no (fun h=>h2 h.2.1)
theorem Gu {s:GShow}{x:GState}{e:GEntry}(hx:aM s x=true)(h:(dG s x e).2=true):aM s (dG s x e).1=true:=by
 obtain ⟨hok,hv3,ht7⟩:=oS hx
 unfold dG at h ⊢
 by_cases he:rP s x e
 ·rw [if_pos he]
  obtain ⟨h1,h2,h3,h4,h5⟩:=he
  obtain ⟨a1,a2,a3⟩:=sx hok h2
  have hm:=uk (xj hx a1 a3)
  obtain ⟨b1,b2,b3⟩:=qW hm.right h4
  refine Ov hm b3 (by rw [← h5,List.length_map,List.length_map]) ?_
  intro v hv
  rw [List.mem_map] at hv
  obtain ⟨y,_,rfl⟩:=hv
  unfold sgn
  split
  ·exact .inr rfl
  ·exact .inl rfl
 ·rw [if_neg he] at h;cases h
noncomputable def bi (s:GShow):GState→List GEntry→GState × Bool
 | x,[]=>(x,true)
 | x,e::r=>if (dG s x e).2=true then bi s (dG s x e).1 r else (lg,false)
noncomputable def dT (s:GShow)(log:List GEntry):GState × Bool:=if aQ s=true then bi s (dF s) log else (lg,false)
theorem BQ {s:GShow}:∀ (log:List GEntry) (x:GState),aM s x=true→(bi s x log).2=true→aM s (bi s x log).1=true
 | [],x,hx,_=>hx
 | e::r,x,hx,h=>by
  unfold bi at h ⊢
  by_cases he:(dG s x e).2=true
  ·rw [if_pos he] at h ⊢
   exact BQ r _ (Gu hx he) h
  ·rw [if_neg he] at h;cases h
theorem qX {s:GShow}:∀ (log:List GEntry) (x:GState),(bi s x log).2=false→bi s x log=(lg,false)
 | [],x,h=>by cases h
 | e::r,x,h=>by
  unfold bi at h ⊢
  by_cases he:(dG s x e).2=true
  ·rw [if_pos he] at h ⊢
   exact qX r _ h
  ·rw [if_neg he]
theorem xk {s:GShow}(h:aQ s=true):aM s (dF s)=true:=by
 have hR:=fG h
 have h1:=hR.node1
 have hh:=hR.hor
 have hl:(dF s).times.length=s.nodes.length:=rJ _
 have htm:∀ i:Nat,i<s.nodes.length→tm (dF s).times (i:Int)=if i=0 then 0 else -1:=by
  have key:∀ n i:Nat,i<n→(stL n)[i]?=some (if i=0 then 0 else -1):=by
   intro n
   induction n with
   | zero=>intro i hi;omega
   | succ n ih=>
    intro i hi
    cases n with
    | zero=>
     obtain rfl:i=0:=by omega
     rfl
    | succ n=>
     rw [Et]
     by_cases hlt:i<n+1
     ·rw [List.getElem?_append_left (by rw [rJ];exact hlt)]
      exact ih i hlt
     ·obtain rfl:i=n+1:=by omega
      rw [List.getElem?_append_right (by rw [rJ];exact Nat.le_refl _),rJ,Nat.sub_self,if_neg (by omega)];rfl
  intro i hi
  unfold tm
  rw [Int.toNat_natCast,show (dF s).times=stL s.nodes.length from rfl,key _ i hi];rfl
 unfold aM
 simp only [Bool.and_eq_true,decide_eq_true_eq]
 refine ⟨⟨⟨⟨⟨h,?_⟩,hl⟩,?_⟩,?_⟩,?_⟩
 ·show 0≤(0:Int)∧(0:Int)≤s.horizon+1;omega
 ·show dl [0,0,0]=true;decide
 ·intro i hi
  unfold mc
  have e:=htm i (by omega)
  by_cases h0:i=0
  ·subst h0
   rw [if_pos rfl]
   rw [if_pos rfl] at e
   exact decide_eq_true e
  ·rw [if_neg h0]
   rw [if_neg h0] at e
   rw [e]
   exact decide_eq_true ⟨by omega,by show (-1:Int)≤0 - 1;omega⟩
 ·intro i hi
  unfold lN
  have ev:tm (dF s).values (i:Int)=0:=by
   unfold nT at hi
   have:i=0∨i=1∨i=2:=by omega
   rcases this with rfl | rfl | rfl <;> rfl
  rw [ev]
  by_cases hw:0≤aO s.nodes (fun n=>decide (n.watch=(i:Int)+1))
  ·obtain ⟨j,hj,e,hq,_⟩:=jF hw
   have hj0:j≠0:=by
    rintro rfl
    have hf:=h
    unfold aQ iO at hf
    simp only [Bool.and_eq_true] at hf
    have hf:=hf.1.1.1.1.1.2
    unfold qe at hf
    rw [List.getElem?_eq_getElem hj] at hf
    simp only [Option.any_some,Bool.and_eq_true,decide_eq_true_eq] at hf
    have:=of_decide_eq_true hq
    omega
   rw [e,htm j hj,if_neg hj0]
   simp
  ·rw [decide_eq_false hw];simp
theorem wG {s:GShow}(log:List GEntry)(hl:log.length≤1048576)(body:(Int × Int × (List Int) × (List Int))→Option (Step (Int × Int × (List Int) × (List Int)) (Sum (Int × (List Int) × (List Int)) (GState × Bool))))
  (h1:∀ (i:Nat) (hi:i<log.length) (x:GState),aM s x=true→body ((i:Int),x.now,x.times,x.values)=(if (dG s x log[i]).2=true then some (.next (((i+1:Nat):Int),(dG s x log[i]).1.now,(dG s x log[i]).1.times,(dG s x log[i]).1.values)) else some (.done (.inr (lg,false)))))
  (h2:∀ x:GState,body ((log.length:Nat),x.now,x.times,x.values)=some (.done (.inl (x.now,x.times,x.values)))) :
  ∀ (n i:Nat),i+n=log.length→∀ x,aM s x=true→ao body ((i:Int),x.now,x.times,x.values)=some (if (bi s x (log.drop i)).2=true then .inl ((bi s x (log.drop i)).1.now,(bi s x (log.drop i)).1.times,(bi s x (log.drop i)).1.values) else .inr (lg,false)):=by
 intro n
 induction n with
 | zero=>
  intro i hi x hx
  obtain rfl:i=log.length:=by omega
  rw [aL,h2,List.drop_length]
  rfl
 | succ n ih=>
  intro i hi x hx
  have hi':i<log.length:=by omega
  rw [aL,h1 i hi' x hx,List.drop_eq_getElem_cons hi']
  by_cases he:(dG s x log[i]).2=true
  ·rw [if_pos he]
   simp only
   rw [ih (i+1) (by omega) _ (Gu hx he)]
   simp only [bi,if_pos he]
  ·rw [if_neg he]
   simp only [bi,if_neg he]
   rfl
theorem AS (s:GShow)(log:List GEntry)(hf:FitS s)(hl:log.length≤1048576)(he:∀ e,e∈log→FitE e):gZ s log=some (dT s log):=by
 have hs:=hf.small
 unfold gZ dT
 rw [wL s hs]
 simp only [obnd]
 by_cases hok:aQ s=true
 ·rw [if_pos hok,if_pos hok,zo s hs hok]
  simp only
  have hst:=xk hok
  have key:=wG (s:=s) log hl (eH log ((log.length:Nat):Int) s.nodes s.ties s.horizon) ?_ ?_ log.length 0 (by omega) (dF s) hst
  ·rw [List.drop_zero] at key
   rw [show (0:Int)=((0:Nat):Int) from rfl,key]
   cases h2:(bi s (dF s) log).2
   ·rw [if_neg (by simp)]
    simp only
    rw [qX _ _ h2]
   ·rw [if_pos rfl]
    simp only
    generalize hr:bi s (dF s) log=q at h2
    obtain ⟨y,b⟩:=q
    simp only at h2
    subst h2
    rfl
  ·intro i hi x hx
   unfold eH
   simp only
   rw [if_pos (by omega),aA hi,wr (x:=(i:Int)+1) (by omega) (by omega)]
   simp only [obnd]
   rw [show (GShow.mk s.nodes s.ties s.horizon)=s from rfl,show (GState.mk x.now x.times x.values)=x from rfl,Hz hs hx (he _ (List.getElem_mem hi))]
   rfl
  ·intro x
   unfold eH
   simp only
   rw [if_neg (by omega)]
 ·rw [if_neg hok,if_neg hok];rfl
theorem EL (s:GShow)(log:List GEntry)(hf:FitS s)(hl:log.length≤1048576)(he:∀ e,e∈log→FitE e)(hok:aQ s=true):dg s log=some (dT s log):=by
 have hs:=hf.small
 unfold dg dT
 rw [zp s hs hok]
 simp only [obnd]
 have hst:=xk hok
 have key:=wG (s:=s) log hl (bZ log ((log.length:Nat):Int) s.nodes s.ties s.horizon) ?_ ?_ log.length 0 (by omega) (dF s) hst
 ·rw [List.drop_zero] at key
  rw [show (0:Int)=((0:Nat):Int) from rfl,key,if_pos hok]
  cases h2:(bi s (dF s) log).2
  ·rw [if_neg (by simp)]
   simp only
   rw [qX _ _ h2]
  ·rw [if_pos rfl]
   simp only
   rw [kk s hs,hok]
   simp only
   generalize hr:bi s (dF s) log=q at h2
   obtain ⟨y,b⟩:=q
   simp only at h2
   subst h2
   rfl
 ·intro i hi x hx
  unfold bZ
  simp only
  rw [if_pos (by omega),aA hi,wr (x:=(i:Int)+1) (by omega) (by omega)]
  simp only [obnd]
  rw [show (GShow.mk s.nodes s.ties s.horizon)=s from rfl,show (GState.mk x.now x.times x.values)=x from rfl,HA hs hx (he _ (List.getElem_mem hi))]
  rfl
 ·intro x
  unfold bZ
  simp only
  rw [if_neg (by omega)]
end Go.Proofs.Qa
set_option maxRecDepth 100000
namespace Go.Proofs.Qa
open Go
theorem ul {s:GShow}(log:List GEntry):((dT s log).2=true∧aM s (dT s log).1=true)∨dT s log=(lg,false):=by
 unfold dT
 by_cases h:aQ s=true
 ·rw [if_pos h]
  cases h2:(bi s (dF s) log).2
  ·exact .inr (qX _ _ h2)
  ·exact .inl ⟨rfl,BQ _ _ (xk h) h2⟩
 ·rw [if_neg h];exact .inr rfl
theorem HB (s:GShow)(log:List GEntry):FitX (dT s log).1:=by
 rcases ul (s:=s) log with ⟨_,h⟩ | h
 ·obtain ⟨_,h2,h3⟩:=oS h
  exact ⟨by omega,by omega⟩
 ·rw [h];exact ⟨by simp [lg],by simp [lg]⟩
theorem AU (s:GShow)(log:List GEntry)(hf:FitS s)(hl:log.length≤1048576)(he:∀ e,e∈log→FitE e):gT s log=some (dT s log):=by
 have hs:=hf.small
 unfold gT
 by_cases hok:aQ s=true
 ·rw [EL s log hf hl he hok]
  simp only [obnd]
  rcases ul (s:=s) log with ⟨h2,_⟩ | h
  ·rw [if_pos h2]
   generalize dT s log=q at h2
   obtain ⟨y,b⟩:=q
   simp only at h2
   subst h2
   rfl
  ·rw [h,if_neg (by simp)];rfl
 ·have key:∃ q,dg s log=some q∧q.2=false:=by
   unfold dg
   have e0:cK s=some (GState.mk 0 [] []):=by
    unfold cK
    rw [kk s hs]
    simp only [obnd]
    rw [if_neg hok]
   rw [e0]
   simp only [obnd]
   cases log with
   | nil=>
    rw [aL]
    unfold bZ
    simp only
    rw [if_neg (by simp)]
    simp only
    rw [kk s hs]
    simp only
    exact ⟨_,rfl,by simpa using hok⟩
   | cons e r=>
    rw [aL]
    unfold bZ
    simp only
    rw [if_pos (by simp)]
    have g:getI (e::r) 0=some e:=rfl
    rw [g]
    simp only [obnd]
    have ha:dM s (GState.mk 0 [] []) e=some (GState.mk 0 [] [],false):=by
     unfold dM ex eV
     rw [qu s _ hs (by simp) (by simp)]
     have:aM s (GState.mk 0 [] [])=false:=by
      unfold aM
      have h0:aQ s=false:=by simpa using hok
      rw [h0];rfl
     rw [this]
     simp only [obnd]
     rw [if_neg (by simp)]
     simp only
     rw [xi _ _ (by unfold Cnt;simp) (by simp)]
     simp
    rw [show (GShow.mk s.nodes s.ties s.horizon)=s from rfl,ha]
    simp only
    rw [if_neg (by simp)]
    exact ⟨_,rfl,rfl⟩
  obtain ⟨q,e,h2⟩:=key
  rw [e]
  simp only [obnd]
  rw [if_neg (by rw [h2];simp)]
  unfold dT
  rw [if_neg hok];rfl
end Go.Proofs.Qa
set_option maxRecDepth 100000
namespace Go.Proofs.Qa
open Go
end Go.Proofs.Qa
set_option maxRecDepth 100000
namespace Go.Proofs.Qa
open Go
theorem wr8 {x:Int}(h1:0≤x)(h2:x≤255):IntKind.wrap .u8 x=x:=by
 unfold IntKind.wrap
 simp [IntKind.bits,IntKind.signed]
 omega
theorem HC (ns:List Int):(db ns).data.toList=ns.map (fun n=>UInt8.ofNat n.toNat):=by
 unfold db
 have key:∀ (ns:List Int) (a:ByteArray),(ns.foldl (fun r n=>r.push (UInt8.ofNat n.toNat)) a).data.toList=a.data.toList++ns.map (fun n=>UInt8.ofNat n.toNat):=by
  intro ns
  induction ns with
  | nil=>intro a;simp
  | cons n ns ih=>
   intro a
   simp only [List.foldl_cons,ih,List.map_cons]
   simp [ByteArray.push]
 rw [key]
 rfl
end Go.Proofs.Qa
set_option maxRecDepth 100000
namespace Go.Proofs.Qa
open Go
end Go.Proofs.Qa
set_option maxRecDepth 100000
namespace Go.Proofs.Qa
open Go
end Go.Proofs.Qa
