/- Sort,Concat,members: what they come to. Own work. -/
import Derived.Test.YtbmkhnbjfeoggaaGreatDoorYcP24
set_option linter.all false
set_option maxRecDepth 100000
namespace Go.Proofs.Qc
open Go
def Asc (l:List Int):Prop:=l.Pairwise (fun a b=>a<b)
theorem zd:∀ {a b:List Int},Asc a→Asc b→(∀ x,x∈a↔x∈b)→a=b
 | [],[],_,_,_=>rfl
 | [],y::b,_,_,h=>absurd ((h y).2 (by simp)) (by simp)
 | x::a,[],_,_,h=>absurd ((h x).1 (by simp)) (by simp)
 | x::a,y::b,ha,hb,h=>by
  have ha':=List.pairwise_cons.1 ha
  have hb':=List.pairwise_cons.1 hb
  have hxy:x=y:=by
   have h1:=(h x).1 (by simp)
   have h2:=(h y).2 (by simp)
   rcases List.mem_cons.1 h1 with h1 | h1
   ·exact h1
   ·rcases List.mem_cons.1 h2 with h2 | h2
    ·exact h2.symm
    ·have:=hb'.1 x h1
     have:=ha'.1 y h2
     omega
  subst hxy
  rw [zd ha'.2 hb'.2 ?_]
  intro z
  have:=h z
  simp only [List.mem_cons] at this
  constructor
  ·intro hz
   rcases this.1 (.inr hz) with h1 | h1
   ·have:=ha'.1 z hz;omega
   ·exact h1
  ·intro hz
   rcases this.2 (.inr hz) with h1 | h1
   ·have:=hb'.1 z hz;omega
   ·exact h1
theorem rt {l:List Int}{x:Int}(h:Asc l)(hx:∀ y,y∈l→y<x):Asc (l++[x]):=by
 unfold Asc
 rw [List.pairwise_append]
 exact ⟨h,List.pairwise_singleton _ _,fun a ha b hb=>by rw [List.mem_singleton.1 hb];exact hx a ha⟩
theorem Ad {l:List Int}(h:l.Pairwise (fun a b=>a≤b))(hn:l.Nodup):Asc l:=by
 unfold Asc List.Nodup at *
 have:=h.and hn
 refine this.imp ?_
 intro a b hab
 have:=hab.1
 have:=hab.2
 omega
theorem Asc.nodup {l:List Int}(h:Asc l):l.Nodup:=by
 unfold List.Nodup
 exact h.imp (fun hab=>by omega)
theorem sT {α:Type}[DecidableEq α]:∀ {l r:List α},l.Nodup→(∀ x,x∈l→x∈r)→l.length≤r.length
 | [],_,_,_=>by simp
 | x::l,r,hn,h=>by
  have hn':=List.nodup_cons.1 hn
  have hx:=h x (by simp)
  have:=sT (l:=l) (r:=r.erase x) hn'.2 (fun y hy=>by
   rw [List.mem_erase_of_ne (by intro e;subst e;exact hn'.1 hy)]
   exact h y (by simp [hy]))
  rw [List.length_erase_of_mem hx] at this
  have:0<r.length:=List.length_pos_of_mem hx
  simp only [List.length_cons]
  omega
theorem ze {α:Type}(A:List α)(b:α)(C:List α):getI (A++b::C) ((A.length:Nat):Int)=some b:=by
 rw [aC (by simp)]
 simp
theorem GW {α:Type}(A:List α)(b z:α)(C:List α):(A++b::C).set A.length z=A++z::C:=by
 rw [List.set_append_right _ _ (Nat.le_refl _),Nat.sub_self];rfl
theorem Et (x y:Int):iE x y=some (decide (x<y)):=by
 unfold iE gT
 simp [obnd]
theorem FD (b i x:Int):∀ (n:Nat) (P:List Int),P.length=n→n≤1000→∀ Q:List Int,∃ P1 P2,P=P1++P2∧(∀ y,y∈P2→x<y)∧(∀ A y,P1=A++[y]→y≤x) ∧
  aq (aL 0 b i) (((P.length:Nat):Int),P++x::Q)=some (P1++x::P2++Q):=by
 intro n
 induction n with
 | zero=>
  intro P hP _ Q
  obtain rfl:=List.length_eq_zero_iff.1 hP
  refine ⟨[],[],rfl,by simp,fun A y h=>by simp at h,?_⟩
  rw [aM]
  unfold aL
  simp
 | succ n ih=>
  intro P hP hn Q
  rcases List.eq_nil_or_concat P with rfl | ⟨A,y,rfl⟩
  ·simp at hP
  rw [List.concat_eq_append] at *
  have hA:A.length=n:=by simpa using hP
  rw [aM]
  have e1:getI (A++[y]++x::Q) (((A++[y]).length:Nat):Int)=some x:=ze _ _ _
  have e2:(((A++[y]).length:Nat):Int) - 1=((A.length:Nat):Int):=by simp
  have e3:getI (A++[y]++x::Q) ((A.length:Nat):Int)=some y:=by
   rw [List.append_assoc];exact ze _ _ _
  have e4:(A++[y]++x::Q).set (A++[y]).length y=A++y::(y::Q):=by
   rw [GW];simp
  by_cases hxy:x<y
  ·obtain ⟨P1,P2,h1,h2,h3,h4⟩:=ih A hA (by omega) (y::Q)
   refine ⟨P1,P2++[y],by rw [h1];simp,?_,h3,?_⟩
   ·intro z hz
    rcases List.mem_append.1 hz with hz | hz
    ·exact h2 z hz
    ·rw [List.mem_singleton.1 hz];exact hxy
   ·have step:aL 0 b i (((A++[y]).length:Nat),A++[y]++x::Q)=some (.next (((A.length:Nat):Int),A++x::(y::Q))):=by
     unfold aL
     simp only
     rw [if_pos (by rw [List.length_append,List.length_singleton];omega),e1]
     simp only [obnd]
     rw [wr (x:=(((A++[y]).length:Nat):Int) - 1) (by rw [List.length_append,List.length_singleton];omega) (by rw [List.length_append,List.length_singleton];omega),e2,e3]
     simp only
     rw [Et]
     simp only
     rw [if_pos (decide_eq_true hxy),Int.toNat_natCast,e4,ze]
     simp only
     rw [Int.toNat_natCast,GW]
    rw [step]
    simp only
    rw [h4]
    simp
  ·refine ⟨A++[y],[],by simp,by simp,?_,?_⟩
   ·intro B z hz
    have:=List.append_inj_right' hz rfl
    simp at this
    omega
   ·have step:aL 0 b i (((A++[y]).length:Nat),A++[y]++x::Q)=some (.done (A++[y]++x::Q)):=by
     unfold aL
     simp only
     rw [if_pos (by rw [List.length_append,List.length_singleton];omega),e1]
     simp only [obnd]
     rw [wr (x:=(((A++[y]).length:Nat):Int) - 1) (by rw [List.length_append,List.length_singleton];omega) (by rw [List.length_append,List.length_singleton];omega),e2,e3]
     simp only
     rw [Et]
     simp only
     rw [if_neg (by rw [decide_eq_false hxy];simp)]
    rw [step]
    simp
theorem CL (l:List Int)(h:l.length≤12):∃ r,bi l 0 ((l.length:Nat):Int)=some r∧r.Perm l∧r.Pairwise (fun a b=>a≤b):=by
 unfold bi
 have key:∃ r,aq (aP 0 ((l.length:Nat):Int)) (1,l)=some r∧(r.Perm l∧r.Pairwise (fun a b=>a≤b)):=by
  by_cases h0:l.length=0
  ·obtain rfl:=List.length_eq_zero_iff.1 h0
   refine ⟨[],?_,List.Perm.refl _,List.Pairwise.nil⟩
   rw [aM]
   unfold aP
   simp
  refine jV (l.length - 1) (fun i st=>st.1=(i:Int)+1∧st.2.Perm l∧(st.2.take (i+1)).Pairwise (fun a b=>a≤b)) _ ⟨rfl,List.Perm.refl _,?_⟩ ?_ ?_
  ·cases l with
   | nil=>simp
   | cons x l=>simp
  ·rintro i ⟨j,L⟩ hi ⟨hj,hp,hs⟩
   simp only at hj hp hs
   subst hj
   have hL:=hp.length_eq
   have hd:L.drop (i+1)=L[i+1]'(by omega)::L.drop (i+2):=List.drop_eq_getElem_cons (by omega)
   have hsplit:L=L.take (i+1)++L[i+1]'(by omega)::L.drop (i+2):=by rw [← hd,List.take_append_drop]
   generalize hx:L[i+1]'(by omega)=x at hd hsplit
   generalize hA:L.take (i+1)=A at hs hsplit
   generalize hC:L.drop (i+2)=C at hsplit
   have hAl:A.length=i+1:=by rw [← hA,List.length_take];omega
   obtain ⟨P1,P2,h1,h2,h3,h4⟩:=FD ((l.length:Nat):Int) ((i:Int)+1) x A.length A rfl (by omega) C
   left
   refine ⟨((i:Int)+1+1,P1++x::P2++C),?_,?_,?_,?_⟩
   ·unfold aP
    simp only
    rw [if_pos (by omega),hsplit,show (i:Int)+1=((A.length:Nat):Int) by omega] at *
    rw [h4]
    simp only [obnd]
    rw [wr (by omega) (by omega)]
   ·simp only;omega
   ·refine List.Perm.trans ?_ hp
    rw [hsplit,h1]
    simp only [List.append_assoc,List.cons_append]
    refine List.Perm.append_left P1 ?_
    exact (List.perm_middle (a:=x) (l₁:=P2) (l₂:=C)).symm
   ·simp only
    have hlen:(P1++x::P2).length=i+1+1:=by
     rw [h1] at hAl
     simp at hAl ⊢
     omega
    rw [← hlen,List.take_left]
    rw [h1] at hs
    obtain ⟨s1,s2,s3⟩:=List.pairwise_append.1 hs
    rw [List.pairwise_append]
    refine ⟨s1,List.pairwise_cons.2 ⟨fun y hy=>Int.le_of_lt (h2 y hy),s2⟩,?_⟩
    intro a ha b hb
    have hax:a≤x:=by
     rcases List.eq_nil_or_concat P1 with rfl | ⟨B,y,rfl⟩
     ·simp at ha
     ·rw [List.concat_eq_append] at *
      have hy:=h3 B y rfl
      rcases List.mem_append.1 ha with ha | ha
      ·have:=(List.pairwise_append.1 s1).2.2 a ha y (by simp)
       omega
      ·rw [List.mem_singleton.1 ha];exact hy
    rcases List.mem_cons.1 hb with rfl | hb
    ·exact hax
    ·have:=h2 b hb;omega
  ·rintro ⟨j,L⟩ ⟨hj,hp,hs⟩
   simp only at hj hp hs
   subst hj
   have hL:=hp.length_eq
   unfold aP
   simp only
   rw [if_neg (by omega)]
   refine ⟨_,rfl,hp,?_⟩
   rw [List.take_of_length_le (by omega)] at hs
   exact hs
 obtain ⟨r,e,hr⟩:=key
 rw [show IntKind.wrap .i64 (0+1)=1 from wr (by omega) (by omega),e]
 exact ⟨r,rfl,hr⟩
theorem CM:∀ n:Nat,n<13→(oS (IntKind.wrap .u64 (n:Int))).isSome=true:=by decide +kernel
theorem Eu (l:List Int)(h:l.length≤12):∃ r,bD l=some r∧r.Perm l∧r.Pairwise (fun a b=>a≤b):=by
 unfold bD
 obtain ⟨b,hb⟩:=Option.isSome_iff_exists.1 (CM l.length (by omega))
 rw [hb]
 simp only [obnd]
 obtain ⟨r,e,hr⟩:=CL l h
 have:bL l 0 ((l.length:Nat):Int) b=some r:=by
  unfold bL
  rw [aM]
  unfold dw
  rw [wr (by omega) (by omega),if_pos (by omega),e]
  rfl
 rw [this]
 exact ⟨r,rfl,hr⟩
theorem JK (n:Nat)(h:n≤1048576):fx (n:Int)=some (List.replicate n 0,0):=by
 unfold fx
 rw [if_neg (by omega),wr (x:=(0:Int) - 0) (by omega) (by omega),wr (x:=(n:Int) - (0 - 0)) (by omega) (by omega)]
 by_cases h0:0<n
 ·rw [if_pos (by omega),ar (by omega),ar (by omega),ar (by omega),show ((n:Int) - (0 - 0)).toNat=n by omega]
 ·obtain rfl:n=0:=by omega
  rw [if_neg (by omega)];rfl
theorem Ae (xs:List (List Int))(i:Nat)(hi:i<xs.length):(xs.take (i+1)).flatten=(xs.take i).flatten++xs[i]:=by
 rw [List.take_succ_eq_append_getElem hi,List.flatten_append]
 simp
theorem Ev (xs:List (List Int))(i:Nat):(xs.take i).flatten.length≤xs.flatten.length:=by
 have:xs.flatten=(xs.take i).flatten++(xs.drop i).flatten:=by rw [← List.flatten_append,List.take_append_drop]
 rw [this,List.length_append];omega
theorem GX (xs:List (List Int))(h:xs.length≤1048576)(hf:xs.flatten.length≤1048576):dY xs=some xs.flatten:=by
 unfold dY
 have k1:aq (cM xs ((xs.length:Nat):Int)) ((((xs.take 0).flatten.length:Nat):Int),((0:Nat):Int))=some ((xs.flatten.length:Nat):Int):=by
  refine aK xs.length (fun i=>((((xs.take i).flatten.length:Nat):Int),(i:Int))) ?_ ?_
  ·intro i hi
   have e:=Ae xs i hi
   have l1:=Ev xs (i+1)
   have e':=congrArg List.length e
   rw [List.length_append] at e'
   unfold cM
   simp only
   rw [if_pos (by omega),aC hi]
   simp only [obnd]
   rw [wr (x:=(((xs.take i).flatten.length:Nat):Int)+((xs[i].length:Nat):Int)) (by omega) (by omega),if_neg (by omega),wr (x:=(i:Int)+1) (by omega) (by omega)]
   congr 3
   omega
  ·unfold cM
   simp only
   rw [if_neg (by omega),List.take_length]
 simp only [List.take_zero,List.flatten_nil,List.length_nil,Int.natCast_zero] at k1
 rw [k1]
 simp only [obnd]
 rw [JK _ hf]
 simp only
 have k2:∃ q,aq (cN xs ((xs.length:Nat):Int)) (0,0,List.replicate xs.flatten.length 0)=some q∧(q.1≤q.2.length∧q.2.length≤xs.flatten.length∧q.2.take q.1=xs.flatten):=by
  refine jV xs.length (fun i st=>st.1=(xs.take i).flatten.length∧st.2.1=(i:Int)∧st.1≤st.2.2.length∧st.2.2.length≤xs.flatten.length∧st.2.2.take st.1=(xs.take i).flatten) _ ⟨by simp,rfl,by simp,by simp,by simp⟩ ?_ ?_
  ·rintro i ⟨n,j,L⟩ hi ⟨hn,hj,hl,hz,ht⟩
   simp only at hn hj hl hz ht
   subst hj
   have e:=Ae xs i hi
   have l1:=Ev xs (i+1)
   have e':=congrArg List.length e
   rw [List.length_append] at e'
   unfold cN
   simp only
   rw [if_pos (by omega),aC hi,wr (x:=(i:Int)+1) (by omega) (by omega)]
   simp only [obnd]
   left
   by_cases h1:n=L.length
   ·rw [if_pos h1,ar (by omega),ar (by omega)]
    refine ⟨_,rfl,by omega,rfl,by simp;omega,by simp only [List.length_append];omega,?_⟩
    rw [h1,List.take_length] at ht
    rw [List.take_of_length_le (by simp;omega),ht,e]
   ·rw [if_neg h1,ar (by omega)]
    by_cases h2:xs[i].length=0
    ·rw [if_pos h2]
     have h3:=List.length_eq_zero_iff.1 h2
     refine ⟨_,rfl,by omega,rfl,hl,hz,?_⟩
     rw [e,h3,List.append_nil];exact ht
    ·rw [if_neg h2,ar (by omega),ar (by omega)]
     refine ⟨_,rfl,by omega,rfl,by simp;omega,by simp only [List.length_append,List.length_take];omega,?_⟩
     rw [ht,e,List.take_of_length_le (by rw [List.length_append];omega)]
  ·rintro ⟨n,j,L⟩ ⟨hn,hj,hl,hz,ht⟩
   simp only at hn hj hl hz ht
   subst hj
   unfold cN
   simp only
   rw [if_neg (by omega)]
   rw [List.take_length] at ht
   exact ⟨_,rfl,hl,hz,ht⟩
 obtain ⟨q,e,hl,hz,hq⟩:=k2
 have hq':=congrArg List.length hq
 rw [List.length_take] at hq'
 rw [e]
 simp only
 rw [ar hl,ar (by omega),hq]
def bH (set:Int)(i:Nat):Bool:=decide ((IntKind.wrap .i64 (((BitVec.ofInt (IntKind.bits .i64) (Int.fdiv set (2^(min i 64))) &&& BitVec.ofInt (IntKind.bits .i64) 1).toNat:Nat):Int))=1)
def sel (p:Nat→Bool)(l:List Int)(n:Nat):List Int:=((List.range n).filter p).map (fun j=>l.getD j 0)
theorem zf {p:Nat→Bool}{l:List Int}{n:Nat}(h:p n=true):sel p l (n+1)=sel p l n++[l.getD n 0]:=by
 unfold sel
 rw [List.range_succ,List.filter_append,List.map_append]
 simp [h]
theorem CN {p:Nat→Bool}{l:List Int}{n:Nat}(h:p n=false):sel p l (n+1)=sel p l n:=by
 unfold sel
 rw [List.range_succ,List.filter_append,List.map_append]
 simp [h]
theorem qR (p:Nat→Bool)(l:List Int)(n:Nat):(sel p l n).length≤n:=by
 unfold sel
 rw [List.length_map]
 have:=List.length_filter_le p (List.range n)
 simpa using this
theorem Ew {p:Nat→Bool}{l:List Int}{n:Nat}{x:Int}(h:x∈sel p l n):∃ i,i<n∧p i=true∧x=l.getD i 0:=by
 unfold sel at h
 simp only [List.mem_map,List.mem_filter,List.mem_range] at h
 obtain ⟨i,⟨h1,h2⟩,rfl⟩:=h
 exact ⟨i,h1,h2,rfl⟩
theorem CO {p:Nat→Bool}{l:List Int}{x:Int}(h:x∈sel p l l.length):x∈l:=by
 obtain ⟨i,hi,_,rfl⟩:=Ew h
 rw [List.getD_eq_getElem?_getD,List.getElem?_eq_getElem hi]
 exact List.getElem_mem hi
theorem zg {p:Nat→Bool}{l:List Int}(h:Asc l):∀ n,n≤l.length→Asc (sel p l n)
 | 0,_=>List.Pairwise.nil
 | n+1,hn=>by
  have ih:=zg (p:=p) h n (by omega)
  cases hp:p n
  ·rw [CN hp];exact ih
  ·rw [zf hp]
   refine rt ih ?_
   intro y hy
   obtain ⟨i,hi,_,rfl⟩:=Ew hy
   rw [List.getD_eq_getElem?_getD,List.getElem?_eq_getElem (by omega),List.getD_eq_getElem?_getD,List.getElem?_eq_getElem (by omega)]
   exact List.pairwise_iff_getElem.1 h i n (by omega) (by omega) hi
theorem xK (l:List Int)(n:Int)(h:l.length≤1000):fW l n=some (sel (bH n) l l.length):=by
 unfold fW
 have key:aq (fw n l ((l.length:Nat):Int)) (((0:Nat):Int),sel (bH n) l 0)=some (sel (bH n) l l.length):=by
  refine aK l.length (fun i=>((i:Int),sel (bH n) l i)) ?_ ?_
  ·intro i hi
   have hs:=qR (bH n) l i
   unfold fw
   simp only
   rw [if_pos (by omega),bk hi]
   simp only [obnd]
   rw [ar (by omega),wr (x:=(i:Int)+1) (by omega) (by omega),Int.toNat_natCast]
   cases hb:bH n i
   ·rw [CN hb]
    unfold bH at hb
    rw [if_neg (of_decide_eq_false hb)];rfl
   ·rw [zf hb]
    unfold bH at hb
    rw [if_pos (of_decide_eq_true hb),ar (by omega),ar (by omega)];rfl
  ·unfold fw
   simp only
   rw [if_neg (by omega)]
 rw [show (0:Int)=((0:Nat):Int) from rfl,show ([]:List Int)=sel (bH n) l 0 from rfl,key];rfl
theorem wru {n:Nat}(h:n≤1000000):IntKind.wrap .u64 (n:Int)=n:=by
 show (n:Int) % 18446744073709551616=n
 omega
theorem xL (l:List Int)(n:Int)(h:l.length≤1000):fT l n=some (sel (bH n) l l.length):=by
 unfold fT
 have key:aq (fm n l ((l.length:Nat):Int)) (((0:Nat):Int),sel (bH n) l 0)=some (sel (bH n) l l.length):=by
  refine aK l.length (fun i=>((i:Int),sel (bH n) l i)) ?_ ?_
  ·intro i hi
   have hs:=qR (bH n) l i
   unfold fm
   simp only
   rw [if_pos (by omega),bk hi,wru (by omega)]
   simp only [obnd]
   rw [ar (by omega),wr (x:=(i:Int)+1) (by omega) (by omega),Int.toNat_natCast]
   cases hb:bH n i
   ·rw [CN hb]
    unfold bH at hb
    rw [if_neg (of_decide_eq_false hb)];rfl
   ·rw [zf hb]
    unfold bH at hb
    rw [if_pos (of_decide_eq_true hb),ar (by omega),ar (by omega)];rfl
  ·unfold fm
   simp only
   rw [if_neg (by omega)]
 rw [show (0:Int)=((0:Nat):Int) from rfl,show ([]:List Int)=sel (bH n) l 0 from rfl,key];rfl
noncomputable def mrg (a b:List Int):List Int:=(bD (a++b)).getD []
theorem Af {a b:List Int}(ha:Asc a)(hb:Asc b)(hd:∀ x,x∈a→x∈b→False)(h:a.length+b.length≤12) :
  bD (a++b)=some (mrg a b)∧Asc (mrg a b)∧(∀ x,x∈mrg a b↔x∈a∨x∈b)∧(mrg a b).length=a.length+b.length:=by
 obtain ⟨r,e,hp,hs⟩:=Eu (a++b) (by simpa using h)
 have hm:mrg a b=r:=by unfold mrg;rw [e];rfl
 rw [hm]
 refine ⟨e,Ad hs ?_,?_,by rw [hp.length_eq,List.length_append]⟩
 ·refine hp.nodup_iff.2 ?_
  rw [List.nodup_append]
  exact ⟨ha.nodup,hb.nodup,fun x hx y hy he=>hd x hx (he ▸ hy)⟩
 ·intro x
  rw [hp.mem_iff,List.mem_append]
theorem DS {a b:List Int}(ha:Asc a)(hb:Asc b)(hd:∀ x,x∈a→x∈b→False)(h:a.length+b.length≤12):eZ a b=some (mrg a b):=by
 obtain ⟨_,m1,m2,_⟩:=Af ha hb hd h
 unfold eZ
 have key:∃ r,aq (eP a b) (0,0,[])=some r∧(Asc r∧∀ x,x∈r↔x∈a∨x∈b):=by
  refine jV (a.length+b.length) (fun n st=>∃ i k:Nat,st.1=(i:Int)∧st.2.1=(k:Int)∧i+k=n∧i≤a.length∧k≤b.length∧st.2.2.length=n∧Asc st.2.2∧(∀ x,x∈st.2.2↔x∈a.take i∨x∈b.take k) ∧
   (∀ x,x∈st.2.2→(∀ hi:i<a.length,x<a[i])∧(∀ hk:k<b.length,x<b[k]))) (fun r=>Asc r∧∀ x,x∈r↔x∈a∨x∈b) ?_ ?_ ?_
  ·exact ⟨0,0,rfl,rfl,rfl,Nat.zero_le _,Nat.zero_le _,rfl,List.Pairwise.nil,by simp,by simp⟩
  ·rintro n ⟨i',k',out⟩ hn ⟨i,k,h1,h2,h3,h4,h5,h6,h7,h8,h9⟩
   simp only at h1 h2 h6 h7 h8 h9
   subst h1 h2
   left
   have takeA:∀ hi:i<a.length,(∀ hk:k<b.length,a[i]<b[k])→∃ s',(some (Step.next ((i:Int)+1,(k:Int),out++[a[i]])):Option (Step (Int × Int × List Int) (List Int)))=some (.next s')∧∃ i2 k2:Nat,s'.1=(i2:Int)∧s'.2.1=(k2:Int)∧i2+k2=n+1∧i2≤a.length∧k2≤b.length∧s'.2.2.length=n+1∧Asc s'.2.2∧(∀ x,x∈s'.2.2↔x∈a.take i2∨x∈b.take k2) ∧
     (∀ x,x∈s'.2.2→(∀ hi:i2<a.length,x<a[i2])∧(∀ hk:k2<b.length,x<b[k2])):=by
    intro hi hlt
    refine ⟨_,rfl,i+1,k,by simp,rfl,by omega,hi,h5,by simp [h6],rt h7 (fun y hy=>(h9 y hy).1 hi),?_,?_⟩
    ·intro x
     rw [List.take_succ_eq_append_getElem hi]
     simp only [List.mem_append,List.mem_singleton,h8]
     constructor
     ·rintro ((hx | hx) | hx)
      ·exact .inl (.inl hx)
      ·exact .inr hx
      ·exact .inl (.inr hx)
     ·rintro ((hx | hx) | hx)
      ·exact .inl (.inl hx)
      ·exact .inr hx
      ·exact .inl (.inr hx)
    ·intro x hx
     rcases List.mem_append.1 hx with hx | hx
     ·refine ⟨fun hi2=>?_,fun hk=>(h9 x hx).2 hk⟩
      have:=(h9 x hx).1 hi
      have:=List.pairwise_iff_getElem.1 ha i (i+1) hi hi2 (by omega)
      omega
     ·rw [List.mem_singleton.1 hx]
      exact ⟨fun hi2=>List.pairwise_iff_getElem.1 ha i (i+1) hi hi2 (by omega),fun hk=>hlt hk⟩
   have takeB:∀ hk:k<b.length,(∀ hi:i<a.length,b[k]<a[i])→∃ s',(some (Step.next ((i:Int),(k:Int)+1,out++[b[k]])):Option (Step (Int × Int × List Int) (List Int)))=some (.next s')∧∃ i2 k2:Nat,s'.1=(i2:Int)∧s'.2.1=(k2:Int)∧i2+k2=n+1∧i2≤a.length∧k2≤b.length∧s'.2.2.length=n+1∧Asc s'.2.2∧(∀ x,x∈s'.2.2↔x∈a.take i2∨x∈b.take k2) ∧
     (∀ x,x∈s'.2.2→(∀ hi:i2<a.length,x<a[i2])∧(∀ hk:k2<b.length,x<b[k2])):=by
    intro hk hlt
    refine ⟨_,rfl,i,k+1,rfl,by simp,by omega,h4,hk,by simp [h6],rt h7 (fun y hy=>(h9 y hy).2 hk),?_,?_⟩
    ·intro x
     rw [List.take_succ_eq_append_getElem hk]
     simp only [List.mem_append,List.mem_singleton,h8]
     constructor
     ·rintro ((hx | hx) | hx)
      ·exact .inl hx
      ·exact .inr (.inl hx)
      ·exact .inr (.inr hx)
     ·rintro (hx | hx | hx)
      ·exact .inl (.inl hx)
      ·exact .inl (.inr hx)
      ·exact .inr hx
    ·intro x hx
     rcases List.mem_append.1 hx with hx | hx
     ·refine ⟨fun hi=>(h9 x hx).1 hi,fun hk2=>?_⟩
      have:=(h9 x hx).2 hk
      have:=List.pairwise_iff_getElem.1 hb k (k+1) hk hk2 (by omega)
      omega
     ·rw [List.mem_singleton.1 hx]
      exact ⟨fun hi=>hlt hi,fun hk2=>List.pairwise_iff_getElem.1 hb k (k+1) hk hk2 (by omega)⟩
   unfold eP
   simp only
   have c1:(out.length+1)*8≤140737488355328:=by omega
   have c2:out.length+1≤9223372036854775807:=by omega
   simp only [ar c1,ar c2]
   rw [wr (x:=(i:Int)+1) (by omega) (by omega),wr (x:=(k:Int)+1) (by omega) (by omega)]
   by_cases hi:i<a.length
   ·rw [if_pos (by omega)]
    by_cases hk:k<b.length
    ·rw [if_neg (by omega),aC hi,aC hk]
     simp only [obnd]
     by_cases hlt:a[i]<b[k]
     ·rw [if_pos hlt];exact takeA hi (fun _=>hlt)
     ·rw [if_neg hlt]
      refine takeB hk (fun _=>?_)
      have:a[i]≠b[k]:=fun e=>hd a[i] (List.getElem_mem hi) (e ▸ List.getElem_mem hk)
      omega
    ·rw [if_pos (by omega),aC hi]
     simp only [obnd]
     exact takeA hi (fun hk'=>absurd hk' hk)
   ·have hk:k<b.length:=by omega
    rw [if_neg (by omega),if_pos (by omega),if_neg (by omega),aC hk]
    simp only [obnd]
    exact takeB hk (fun hi'=>absurd hi' hi)
  ·rintro ⟨i',k',out⟩ ⟨i,k,h1,h2,h3,h4,h5,h6,h7,h8,h9⟩
   simp only at h1 h2 h6 h7 h8 h9
   subst h1 h2
   obtain rfl:i=a.length:=by omega
   obtain rfl:k=b.length:=by omega
   unfold eP
   simp only
   rw [if_neg (by omega),if_neg (by omega)]
   refine ⟨_,rfl,h7,?_⟩
   simpa using h8
 obtain ⟨r,e,r1,r2⟩:=key
 rw [e]
 simp only [obnd]
 rw [zd r1 m1 (fun x=>by rw [r2,m2])]
end Go.Proofs.Qc
set_option maxRecDepth 100000
namespace Go.Proofs.Qc
open Go
structure Ns (s:GShow) (i:Nat) (t:GTie):Prop where
 low:1≤t.low
 t0:t.to≠0
 watch:∀ b,s.nodes[t.to.toNat]?=some b→b.watch=0
 one:∀ j (hj:j<s.ties.length),j<i→s.ties[j].free=true→s.ties[j].to≠t.to
theorem nI {s:GShow}(h:aO s=true){i:Nat}(hi:i<s.ties.length)(hf:s.ties[i].free=true):Ns s i s.ties[i]:=by
 have hR:=bT h
 have hT:=hR.tie _ (List.getElem_mem hi)
 unfold aO at h
 simp only [Bool.and_eq_true,decide_eq_true_eq] at h
 have hp:=h.1.1.1.2 i hi
 rw [tZ hi,Bool.and_eq_true] at hp
 have hF:=hp.2
 unfold ny at hF
 rw [hf] at hF
 simp only [Bool.not_true,Bool.false_or,Bool.and_eq_true,decide_eq_true_eq] at hF
 obtain ⟨⟨⟨h1,h2⟩,h3⟩,h4⟩:=hF
 have a1:=hT.t1
 have a2:=hT.f1
 have b1:s.nodes[s.ties[i].to.toNat]?=some (s.nodes[s.ties[i].to.toNat]'(by have:=hT.t0;omega)):=List.getElem?_eq_getElem _
 have b2:s.nodes[s.ties[i].from_.toNat]?=some (s.nodes[s.ties[i].from_.toNat]'(by have:=hT.f0;omega)):=List.getElem?_eq_getElem _
 rw [b1,b2] at h3
 simp only [decide_eq_true_eq] at h3
 refine ⟨h1,h2,?_,?_⟩
 ·intro b hb
  rw [b1] at hb
  cases hb
  exact h3.1
 ·intro j hj hji hfj he
  rw [Bool.not_eq_true',List.any_eq_false] at h4
  refine h4 s.ties[j] ?_ (by rw [hfj,decide_eq_true he];rfl)
  exact List.mem_take_iff_getElem.2 ⟨j,by omega,rfl⟩
theorem oT (p:Nat→Bool):∀ n,Asc (bn p n)
 | 0=>List.Pairwise.nil
 | n+1=>by
  cases hp:p n
  ·rw [bB hp];exact oT p n
  ·rw [fL hp]
   refine rt (oT p n) ?_
   intro y hy
   obtain ⟨i,hi,_,rfl⟩:=mJ.1 hy
   omega
theorem vI (s:GShow)(x:GState):Asc (actL s x):=oT _ _
theorem qS {s:GShow}{x:GState}{k:Int}(h:k∈actL s x):∃ i,∃ hi:i<s.ties.length,k=(i:Int)∧s.ties[i].free=true∧tm x.times s.ties[i].from_≠-1∧tm x.times s.ties[i].to=-1:=by
 obtain ⟨i,hi,hp,rfl⟩:=mJ.1 h
 unfold jO at hp
 rw [List.getElem?_eq_getElem hi] at hp
 simp only [Option.any_some] at hp
 unfold actT at hp
 simp only [Bool.and_eq_true,decide_eq_true_eq] at hp
 exact ⟨i,hi,rfl,hp.1,hp.2.1,hp.2.2⟩
theorem Il {s:GShow}(h:aO s=true){i j:Nat}(hi:i<s.ties.length)(hj:j<s.ties.length)(hf:s.ties[i].free=true)(hg:s.ties[j].free=true)(he:s.ties[i].to=s.ties[j].to):i=j:=by
 rcases Nat.lt_trichotomy i j with hlt | he' | hlt
 ·exact absurd he ((nI h hj hg).one i hi hlt hf)
 ·exact he'
 ·exact absurd he.symm ((nI h hi hf).one j hj hlt hg)
theorem qT {s:GShow}(h:aO s=true)(x:GState):(actL s x).length≤6:=by
 have hR:=bT h
 have hn:=hR.nodes
 have hnd:((actL s x).map (fun k=>(bA s k).to)).Nodup:=by
  unfold List.Nodup
  rw [List.pairwise_map]
  refine List.Pairwise.imp_of_mem ?_ (vI s x)
  intro a b ha hb hab he
  obtain ⟨i,hi,rfl,hf,_,_⟩:=qS ha
  obtain ⟨j,hj,rfl,hg,_,_⟩:=qS hb
  rw [nr hi,nr hj] at he
  have:=Il h hi hj hf hg he
  omega
 have:=sT (r:=[1,2,3,4,5,6]) hnd (fun y hy=>by
  rw [List.mem_map] at hy
  obtain ⟨k,hk,rfl⟩:=hy
  obtain ⟨i,hi,rfl,hf,_,_⟩:=qS hk
  rw [nr hi]
  have hT:=hR.tie _ (List.getElem_mem hi)
  have h0:=(nI h hi hf).t0
  have h1:=hT.t0
  have h2:=hT.t1
  simp only [List.mem_cons,List.not_mem_nil,or_false]
  omega)
 simpa using this
def jP (s:GShow)(x:GState)(k:Int):Bool:=decide ((bA s k).high≤x.now - tm x.times (bA s k).from_)
def mayT (s:GShow)(x:GState)(k:Int):Bool:=!jP s x k&&decide ((bA s k).low≤x.now - tm x.times (bA s k).from_)
def ja (s:GShow)(x:GState):List Int:=(actL s x).filter (jP s x)
def mayL (s:GShow)(x:GState):List Int:=(actL s x).filter (mayT s x)
noncomputable def jQ (s:GShow)(x:GState)(n:Nat):List Int:=mrg (ja s x) (sel (bH (n:Int)) (mayL s x) (mayL s x).length)
noncomputable def mK (s:GShow)(x:GState):List (List Int):=if s.horizon<x.now then [] else (List.range (2^(mayL s x).length)).map (jQ s x)
theorem xM {α:Type}(p q:α→Bool)(h:∀ x,p x=true→q x=false):∀ l:List α,(l.filter p).length+(l.filter q).length≤l.length
 | []=>by simp
 | x::l=>by
  have ih:=xM p q h l
  have hx:=h x
  cases hp:p x
  ·cases hq:q x <;> simp [List.filter_cons,hp,hq] <;> omega
  ·rw [hp] at hx
   have:=hx rfl
   simp [List.filter_cons,hp,this];omega
theorem ru (s:GShow)(x:GState):(ja s x).length+(mayL s x).length≤(actL s x).length:=xM _ _ (fun k h=>by unfold mayT;rw [h];rfl) _
theorem Ag (s:GShow)(x:GState):Asc (ja s x):=(vI s x).filter _
theorem Im (s:GShow)(x:GState):Asc (mayL s x):=(vI s x).filter _
theorem FE (s:GShow)(x:GState)(k:Int)(h1:k∈ja s x)(h2:k∈mayL s x):False:=by
 have a:=(List.mem_filter.1 h1).2
 have b:=(List.mem_filter.1 h2).2
 unfold mayT at b
 rw [a] at b
 simp at b
theorem qh {s:GShow}(h:aO s=true)(x:GState)(n:Nat) :
  bD (ja s x++sel (bH (n:Int)) (mayL s x) (mayL s x).length)=some (jQ s x n)∧eZ (ja s x) (sel (bH (n:Int)) (mayL s x) (mayL s x).length)=some (jQ s x n) ∧
  Asc (jQ s x n)∧(∀ k,k∈jQ s x n→k∈actL s x)∧(jQ s x n).length=(ja s x).length+(sel (bH (n:Int)) (mayL s x) (mayL s x).length).length∧(jQ s x n).length≤6:=by
 have h6:=qT h x
 have hmm:=ru s x
 have hsl:=qR (bH (n:Int)) (mayL s x) (mayL s x).length
 have hasc:=zg (p:=bH (n:Int)) (Im s x) (mayL s x).length (Nat.le_refl _)
 have hdis:∀ k,k∈ja s x→k∈sel (bH (n:Int)) (mayL s x) (mayL s x).length→False:=fun k h1 h2=>FE s x k h1 (CO h2)
 obtain ⟨m1,m2,m3,m4⟩:=Af (Ag s x) hasc hdis (by omega)
 refine ⟨m1,DS (Ag s x) hasc hdis (by omega),m2,?_,m4,by unfold jQ;omega⟩
 intro k hk
 rcases (m3 k).1 hk with h1 | h1
 ·exact (List.mem_filter.1 h1).1
 ·exact (List.mem_filter.1 (CO h1)).1
theorem kX {α:Type}(p:α→Bool){l:List α}{i:Nat}(hi:i<l.length):(l.take (i+1)).filter p=(l.take i).filter p++(if p l[i]=true then [l[i]] else []):=by
 rw [List.take_succ_eq_append_getElem hi,List.filter_append]
 cases hp:p l[i] <;> simp [hp]
theorem kw {α:Type}(f:Nat→α)(n:Nat):(List.range (n+1)).map f=(List.range n).map f++[f n]:=by
 rw [List.range_succ,List.map_append];rfl
theorem rv {m:Nat}(h:m≤7):2^m≤128:=by
 have:∀ m:Nat,m<8→2^m≤128:=by decide
 exact this m (by omega)
theorem qU {m:Nat}(h:m≤7):IntKind.wrap .i64 (1*2^(min m 64))=((2^m:Nat):Int):=by
 have hb:=rv h
 rw [Nat.min_eq_left (by omega),Int.one_mul]
 have:(2:Int)^m=((2^m:Nat):Int):=by simp
 rw [this]
 generalize 2^m=q at *
 exact wr (by omega) (by omega)
theorem CP {s:GShow}{x:GState}(hx:aI s x=true){i:Nat}(hi:i<(actL s x).length) :
  getI s.ties (actL s x)[i]=some (bA s (actL s x)[i])∧getI x.times (bA s (actL s x)[i]).from_=some (tm x.times (bA s (actL s x)[i]).from_) ∧
  IntKind.wrap .i64 (x.now - tm x.times (bA s (actL s x)[i]).from_)=x.now - tm x.times (bA s (actL s x)[i]).from_:=by
 have hR:=cv hx
 have hnow:=IK hx
 have hlen:=hR.len
 obtain ⟨j,hj,e,hf,_,_⟩:=qS (List.getElem_mem hi)
 rw [e,nr hj]
 have hT:=hR.right.tie _ (List.getElem_mem hj)
 have hb:=hR.all _ hT.f0 hT.f1
 refine ⟨aC hj,fc hT.f0 (by have:=hT.f1;omega),wr (by omega) (by omega)⟩
theorem FF {s:GShow}{x:GState}(hx:aI s x=true):iF s x=some (mK s x):=by
 have hR:=cv hx
 have hok:aO s=true:=by unfold aI at hx;simp only [Bool.and_eq_true] at hx;exact hx.1.1.1.1.1
 have h6:=qT hok x
 have hmm:=ru s x
 unfold iF mK
 by_cases hh:s.horizon<x.now
 ·rw [if_pos hh,if_pos hh]
 rw [if_neg hh,if_neg hh,GV s x hR]
 simp only [obnd]
 have k1:aq (fy (((actL s x).length:Nat):Int) s.nodes s.ties s.horizon x.now x.times x.values (actL s x)) (((0:Nat):Int),((actL s x).take 0).filter (jP s x),((actL s x).take 0).filter (mayT s x))=some (ja s x,mayL s x):=by
  refine aK (actL s x).length (fun i=>((i:Int),((actL s x).take i).filter (jP s x),((actL s x).take i).filter (mayT s x))) ?_ ?_
  ·intro i hi
   obtain ⟨e1,e2,e3⟩:=CP hx hi
   have l1:=List.length_filter_le (jP s x) ((actL s x).take i)
   have l2:=List.length_filter_le (mayT s x) ((actL s x).take i)
   rw [List.length_take] at l1 l2
   unfold fy
   simp only
   rw [if_pos (by omega),aC hi]
   simp only [obnd]
   rw [e1]
   simp only
   rw [e2]
   simp only
   rw [e3,ar (by omega),ar (by omega),ar (by omega),ar (by omega),wr (x:=(i:Int)+1) (by omega) (by omega),kX (jP s x) hi,kX (mayT s x) hi]
   by_cases hm:(bA s (actL s x)[i]).high≤x.now - tm x.times (bA s (actL s x)[i]).from_
   ·have a1:jP s x (actL s x)[i]=true:=decide_eq_true hm
    have a2:mayT s x (actL s x)[i]=false:=by unfold mayT;rw [a1];rfl
    rw [if_pos hm,a1,a2];simp
   ·have a1:jP s x (actL s x)[i]=false:=decide_eq_false hm
    rw [if_neg hm,a1]
    by_cases hl:(bA s (actL s x)[i]).low≤x.now - tm x.times (bA s (actL s x)[i]).from_
    ·have a2:mayT s x (actL s x)[i]=true:=by unfold mayT;rw [a1,decide_eq_true hl];rfl
     rw [if_pos hl,a2];simp
    ·have a2:mayT s x (actL s x)[i]=false:=by unfold mayT;rw [a1,decide_eq_false hl];rfl
     rw [if_neg hl,a2];simp
  ·unfold fy
   simp only
   rw [if_neg (by omega),List.take_length];rfl
 simp only [List.take_zero,List.filter_nil,Int.natCast_zero] at k1
 rw [k1]
 simp only
 have hpow:=rv (m:=(mayL s x).length) (by omega)
 have k2:aq (fz (ja s x) (mayL s x)) (((0:Nat):Int),(List.range 0).map (jQ s x))=some ((List.range (2^(mayL s x).length)).map (jQ s x)):=by
  refine aK (2^(mayL s x).length) (fun i=>((i:Int),(List.range i).map (jQ s x))) ?_ ?_
  ·intro i hi
   obtain ⟨f1,f2,f3,f4,f5,f6⟩:=qh hok x i
   have hsl:=qR (bH (i:Int)) (mayL s x) (mayL s x).length
   unfold fz
   simp only
   rw [ar (by omega),qU (by omega),if_pos (by omega),xK _ _ (by omega)]
   simp only [obnd]
   rw [GX _ (by simp) (by simp;omega)]
   simp only
   rw [show [ja s x,sel (bH (i:Int)) (mayL s x) (mayL s x).length].flatten=ja s x++sel (bH (i:Int)) (mayL s x) (mayL s x).length by simp,f1]
   simp only
   rw [ar (by rw [f5,List.length_append]),ar (by simp;omega),ar (by simp;omega),wr (x:=(i:Int)+1) (by omega) (by omega),kw];rfl
  ·unfold fz
   simp only
   rw [ar (by omega),qU (by omega),if_neg (by omega)]
 simp only [List.range_zero,List.map_nil,Int.natCast_zero] at k2
 rw [k2]
theorem AX {s:GShow}{x:GState}(hx:aI s x=true):fk s x=some (ja s x,mayL s x):=by
 have hR:=cv hx
 have hok:aO s=true:=by unfold aI at hx;simp only [Bool.and_eq_true] at hx;exact hx.1.1.1.1.1
 have h6:=qT hok x
 unfold fk
 rw [CK s x hR]
 simp only [obnd]
 have k1:aq (du (((actL s x).length:Nat):Int) s.nodes s.ties s.horizon x.now x.times x.values (actL s x)) (((0:Nat):Int),((actL s x).take 0).filter (jP s x),((actL s x).take 0).filter (mayT s x))=some (ja s x,mayL s x):=by
  refine aK (actL s x).length (fun i=>((i:Int),((actL s x).take i).filter (jP s x),((actL s x).take i).filter (mayT s x))) ?_ ?_
  ·intro i hi
   obtain ⟨e1,e2,e3⟩:=CP hx hi
   have l1:=List.length_filter_le (jP s x) ((actL s x).take i)
   have l2:=List.length_filter_le (mayT s x) ((actL s x).take i)
   rw [List.length_take] at l1 l2
   unfold du
   simp only
   rw [if_pos (by omega),aC hi]
   simp only [obnd]
   rw [e1]
   simp only
   rw [e2]
   simp only
   rw [e3,ar (by omega),ar (by omega),ar (by omega),ar (by omega),wr (x:=(i:Int)+1) (by omega) (by omega),kX (jP s x) hi,kX (mayT s x) hi]
   by_cases hm:(bA s (actL s x)[i]).high≤x.now - tm x.times (bA s (actL s x)[i]).from_
   ·have a1:jP s x (actL s x)[i]=true:=decide_eq_true hm
    have a2:mayT s x (actL s x)[i]=false:=by unfold mayT;rw [a1];rfl
    rw [if_pos hm,a1,a2];simp
   ·have a1:jP s x (actL s x)[i]=false:=decide_eq_false hm
    rw [if_neg hm,a1]
    by_cases hl:(bA s (actL s x)[i]).low≤x.now - tm x.times (bA s (actL s x)[i]).from_
    ·have a2:mayT s x (actL s x)[i]=true:=by unfold mayT;rw [a1,decide_eq_true hl];rfl
     rw [if_pos hl,a2];simp
    ·have a2:mayT s x (actL s x)[i]=false:=by unfold mayT;rw [a1,decide_eq_false hl];rfl
     rw [if_neg hl,a2];simp
  ·unfold du
   simp only
   rw [if_neg (by omega),List.take_length];rfl
 simp only [List.take_zero,List.filter_nil,Int.natCast_zero] at k1
 rw [k1]
theorem CQ {s:GShow}{x:GState}(hs:bN s)(hx:aI s x=true)(h1:x.times.length≤1048576)(h2:x.values.length≤1048576):gg s x=some (mK s x):=by
 have hR:=cv hx
 have hok:aO s=true:=by unfold aI at hx;simp only [Bool.and_eq_true] at hx;exact hx.1.1.1.1.1
 have h6:=qT hok x
 have hmm:=ru s x
 unfold gg mK
 rw [px s x hs h1 h2,hx]
 simp only [obnd,if_true]
 by_cases hh:s.horizon<x.now
 ·rw [if_pos hh,if_pos hh]
 rw [if_neg hh,if_neg hh,AX hx]
 simp only
 have hpow:=rv (m:=(mayL s x).length) (by omega)
 have k2:aq (dR (ja s x) (mayL s x)) (((0:Nat):Int),(List.range 0).map (jQ s x))=some ((List.range (2^(mayL s x).length)).map (jQ s x)):=by
  refine aK (2^(mayL s x).length) (fun i=>((i:Int),(List.range i).map (jQ s x))) ?_ ?_
  ·intro i hi
   obtain ⟨f1,f2,f3,f4,f5,f6⟩:=qh hok x i
   unfold dR
   simp only
   rw [wru (by omega),ar (by omega),Int.toNat_natCast,qU (by omega),if_pos (by omega),xL _ _ (by omega)]
   simp only [obnd]
   rw [f2]
   simp only
   rw [ar (by simp;omega),ar (by simp;omega),wr (x:=(i:Int)+1) (by omega) (by omega),kw];rfl
  ·unfold dR
   simp only
   rw [wru (by omega),ar (by omega),Int.toNat_natCast,qU (by omega),if_neg (by omega)]
 simp only [List.range_zero,List.map_nil,Int.natCast_zero] at k2
 rw [k2]
theorem pz {s:GShow}{x:GState}(hok:aO s=true){ties:List Int}(h:ties∈mK s x):x.now≤s.horizon∧ties.length≤6∧(∀ k,k∈ties→k∈actL s x):=by
 unfold mK at h
 by_cases hh:s.horizon<x.now
 ·rw [if_pos hh] at h;simp at h
 rw [if_neg hh,List.mem_map] at h
 obtain ⟨n,_,rfl⟩:=h
 obtain ⟨f1,f2,f3,f4,f5,f6⟩:=qh hok x n
 exact ⟨by omega,f6,f4⟩
theorem Ah {s:GShow}{x:GState}(hok:aO s=true):(mK s x).length≤128:=by
 unfold mK
 have h6:=qT hok x
 have hmm:=ru s x
 have hpow:=rv (m:=(mayL s x).length) (by omega)
 split
 ·simp
 ·simpa using hpow
theorem zh (xs:List (List Int))(p:List Int→Option Bool)(q:List Int→Bool)(hx:Cnt xs.length)(hp:∀ x,x∈xs→p x=some (q x)):cF xs p=some (aN xs q):=by
 unfold cF aN
 have key:=iU (body:=bq xs p ((xs.length:Nat):Int)) xs q (fun i=>(i:Int)) (rT:=.inl ()) (fun i=>.inr (i:Int)) ?_ ?_ ?_
 ·rw [show (0:Int)=((0:Nat):Int) from rfl,key]
  simp only [obnd]
  cases xs.findIdx? q <;> rfl
 ·intro i hi hq
  unfold bq
  unfold Cnt at hx
  rw [if_pos (by omega),aC hi,wr (x:=(i:Int)+1) (by omega) (by omega)]
  simp only [obnd]
  rw [hp _ (List.getElem_mem hi),hq];rfl
 ·intro i hi hq
  unfold bq
  rw [if_pos (by omega),aC hi]
  simp only [obnd]
  rw [hp _ (List.getElem_mem hi),hq];rfl
 ·unfold bq
  rw [if_neg (by omega)]
theorem CR (xs:List (List Int))(l:List Int)(hx:Cnt xs.length)(hl:Cnt l.length):ko xs l=some (decide (l∈xs)):=by
 unfold ko cQ
 rw [zh xs _ (fun y=>decide (l=y)) hx (fun y _=>by unfold lk;rw [om l y hl];rfl)]
 simp only [obnd]
 rw [mi]
 congr 1
 rw [Bool.eq_iff_iff,List.any_eq_true,decide_eq_true_eq]
 simp
theorem CS (xs:List (List Int))(l:List Int)(hx:Cnt xs.length)(hx2:∀ x,x∈xs→Cnt x.length):iC xs l=some (decide (l∈xs)):=by
 unfold iC
 have key:aq (fa l xs ((xs.length:Nat):Int)) ((0:Nat):Int)=some (if xs.all (fun x=>!decide (x=l))=true then .inl () else .inr true):=by
  unfold Cnt at hx
  refine iY xs (fun x=>!decide (x=l)) (fun i=>(i:Int)) ?_ ?_ ?_
  ·intro i hi hq
   rw [Bool.not_eq_true',decide_eq_false_iff_not] at hq
   unfold fa
   rw [if_pos (by omega),aC hi,wr (x:=(i:Int)+1) (by omega) (by omega)]
   simp only [obnd]
   rw [mN _ _ (hx2 _ (List.getElem_mem hi))]
   simp only
   rw [if_neg (by rw [decide_eq_false hq];simp)];rfl
  ·intro i hi hq
   rw [Bool.not_eq_false',decide_eq_true_eq] at hq
   unfold fa
   rw [if_pos (by omega),aC hi]
   simp only [obnd]
   rw [mN _ _ (hx2 _ (List.getElem_mem hi))]
   simp only
   rw [if_pos (decide_eq_true hq)]
  ·unfold fa
   rw [if_neg (by omega)]
 rw [show (0:Int)=((0:Nat):Int) from rfl,key]
 have e:decide (l∈xs)=!xs.all (fun x=>!decide (x=l)):=by
  rw [Bool.eq_iff_iff,decide_eq_true_eq,Bool.not_eq_true',List.all_eq_false]
  simp
 rw [e]
 cases xs.all (fun x=>!decide (x=l)) <;> rfl
def aZ (f:Int→Int)(v:Int)(ks t:List Int):List Int:=ks.foldl (fun t k=>t.set (f k).toNat v) t
theorem nJ (f:Int→Int)(v:Int)(ks:List Int)(k:Int)(t:List Int):aZ f v (ks++[k]) t=(aZ f v ks t).set (f k).toNat v:=by
 unfold aZ;rw [List.foldl_append];rfl
theorem cT (f:Int→Int)(v:Int):∀ (ks t:List Int),(aZ f v ks t).length=t.length
 | [],t=>rfl
 | k::ks,t=>by
  show (aZ f v ks (t.set (f k).toNat v)).length=_
  rw [cT f v ks,List.length_set]
theorem CT (t:List Int)(j i v:Int)(hj:0≤j)(hj2:j<t.length)(hi:0≤i):tm (t.set j.toNat v) i=if i=j then v else tm t i:=by
 unfold tm
 rw [List.getElem?_set]
 by_cases h:i=j
 ·subst h
  rw [if_pos rfl,if_pos (by omega),if_pos rfl];rfl
 ·rw [if_neg (by omega),if_neg h]
theorem sU (f:Int→Int)(v:Int):∀ (ks t:List Int) (i:Int),0≤i→(∀ k,k∈ks→0≤f k∧f k<t.length)→tm (aZ f v ks t) i=if i∈ks.map f then v else tm t i
 | [],t,i,_,_=>by simp [aZ]
 | k::ks,t,i,h0,h=>by
  have hk:=h k (by simp)
  show tm (aZ f v ks (t.set (f k).toNat v)) i=_
  rw [sU f v ks _ i h0 (fun k' hk'=>by rw [List.length_set];exact h k' (by simp [hk'])),CT _ _ _ _ hk.1 hk.2 h0]
  by_cases h1:i∈ks.map f
  ·rw [if_pos h1,if_pos (by simp only [List.map_cons,List.mem_cons];exact .inr h1)]
  ·rw [if_neg h1]
   by_cases h2:i=f k
   ·rw [if_pos h2,if_pos (by simp [h2])]
   ·rw [if_neg h2,if_neg (by simp only [List.map_cons,List.mem_cons];rintro (h3 | h3);exact h2 h3;exact h1 h3)]
theorem pA (x:GState)(h1:x.times.length≤1048576)(h2:x.values.length≤1048576):cV x=some x:=by
 unfold cV
 rw [tb _ h1,tb _ h2];rfl
theorem oU (x:GState)(h1:x.times.length≤1048576)(h2:x.values.length≤1048576):df x=some x:=by
 unfold df
 rw [ar (by omega),ar (by omega),ar (by omega),ar (by omega)]
def endX (s:GShow)(x:GState)(ties:List Int):GState:=⟨x.now,aZ (fun k=>(bA s k).to) x.now ties x.times,x.values⟩
theorem rx {s:GShow}{x:GState}(hx:aI s x=true){ties:List Int}(ht:∀ k,k∈ties→k∈actL s x){i:Nat}(hi:i<ties.length) :
  getI s.ties ties[i]=some (bA s ties[i])∧0≤(bA s ties[i]).to∧(bA s ties[i]).to<x.times.length:=by
 have hR:=cv hx
 have hlen:=hR.len
 obtain ⟨j,hj,e,_,_,_⟩:=qS (ht _ (List.getElem_mem hi))
 rw [e,nr hj]
 have hT:=hR.right.tie _ (List.getElem_mem hj)
 exact ⟨aC hj,hT.t0,by have:=hT.t1;omega⟩
theorem In {s:GShow}{x:GState}(hx:aI s x=true)(h2:x.values.length≤1048576){ties:List Int}(hl:ties.length≤1000)(ht:∀ k,k∈ties→k∈actL s x):kb s x ties=some (endX s x ties):=by
 have hR:=cv hx
 have hlen:=hR.len
 have hn:=hR.right.nodes
 unfold kb
 rw [pA x (by omega) h2]
 simp only [obnd]
 have key:aq (gU ties ((ties.length:Nat):Int) s.nodes s.ties s.horizon x.now x.times x.values x.now x.values) (((0:Nat):Int),aZ (fun k=>(bA s k).to) x.now (ties.take 0) x.times)=some (aZ (fun k=>(bA s k).to) x.now ties x.times):=by
  refine aK ties.length (fun i=>((i:Int),aZ (fun k=>(bA s k).to) x.now (ties.take i) x.times)) ?_ ?_
  ·intro i hi
   obtain ⟨e1,e2,e3⟩:=rx hx ht hi
   unfold gU
   simp only
   rw [if_pos (by omega),aC hi]
   simp only [obnd]
   rw [e1]
   simp only
   rw [fc e2 (by rw [cT];exact e3)]
   simp only
   rw [wr (x:=(i:Int)+1) (by omega) (by omega),List.take_succ_eq_append_getElem hi,nJ];rfl
  ·unfold gU
   simp only
   rw [if_neg (by omega),List.take_length]
 rw [List.take_zero] at key
 change obnd (aq _ (((0:Nat):Int),aZ (fun k=>(bA s k).to) x.now [] x.times)) _=_
 rw [key];rfl
theorem GY {s:GShow}{x:GState}(hx:aI s x=true)(h2:x.values.length≤1048576){ties:List Int}(hl:ties.length≤1000)(ht:∀ k,k∈ties→k∈actL s x):jr s x ties=some (endX s x ties):=by
 have hR:=cv hx
 have hlen:=hR.len
 have hn:=hR.right.nodes
 unfold jr
 rw [oU x (by omega) h2]
 simp only [obnd]
 have key:aq (gh ties ((ties.length:Nat):Int) s.nodes s.ties s.horizon x.now x.times x.values x.now x.values) (((0:Nat):Int),aZ (fun k=>(bA s k).to) x.now (ties.take 0) x.times)=some (aZ (fun k=>(bA s k).to) x.now ties x.times):=by
  refine aK ties.length (fun i=>((i:Int),aZ (fun k=>(bA s k).to) x.now (ties.take i) x.times)) ?_ ?_
  ·intro i hi
   obtain ⟨e1,e2,e3⟩:=rx hx ht hi
   unfold gh
   simp only
   rw [if_pos (by omega),aC hi]
   simp only [obnd]
   rw [e1]
   simp only
   rw [fc e2 (by rw [cT];exact e3)]
   simp only
   rw [wr (x:=(i:Int)+1) (by omega) (by omega),List.take_succ_eq_append_getElem hi,nJ];rfl
  ·unfold gh
   simp only
   rw [if_neg (by omega),List.take_length]
 rw [List.take_zero] at key
 change obnd (aq _ (((0:Nat):Int),aZ (fun k=>(bA s k).to) x.now [] x.times)) _=_
 rw [key];rfl
def BK (x:GState):GState:=⟨x.now+1,x.times,x.values⟩
def BL (s:GShow)(x:GState):Bool:=decide (0≤x.now∧x.now≤s.horizon)&&aI s (BK x)
theorem Ex {s:GShow}{x:GState}(hx:aI s x=true){ties:List Int}(ht:∀ k,k∈ties→k∈actL s x){i:Int}(hi:0≤i) :
  tm (endX s x ties).times i=if i∈ties.map (fun k=>(bA s k).to) then x.now else tm x.times i:=by
 unfold endX
 refine sU _ _ _ _ _ hi ?_
 intro k hk
 obtain ⟨j,hj,rfl⟩:=List.getElem_of_mem hk
 exact (rx hx ht hj).2
theorem xN {s:GShow}{x:GState}(hok:aO s=true){ties:List Int}(ht:∀ k,k∈ties→k∈actL s x){i:Int}(h:i∈ties.map (fun k=>(bA s k).to)):i≠0∧∀ b,s.nodes[i.toNat]?=some b→b.watch=0:=by
 rw [List.mem_map] at h
 obtain ⟨k,hk,rfl⟩:=h
 obtain ⟨j,hj,rfl,hf,_,_⟩:=qS (ht _ hk)
 rw [nr hj]
 have:=nI hok hj hf
 exact ⟨this.t0,this.watch⟩
theorem vJ {s:GShow}{x:GState}(hx:aI s x=true)(hh:x.now≤s.horizon){ties:List Int}(ht:∀ k,k∈ties→k∈actL s x):BL s (endX s x ties)=true:=by
 have hnow:=IK hx
 have hx0:=hx
 have hl:(endX s x ties).times.length=x.times.length:=cT _ _ _ _
 unfold aI at hx
 simp only [Bool.and_eq_true,decide_eq_true_eq] at hx
 obtain ⟨⟨⟨⟨⟨h1,h2⟩,h3⟩,h4⟩,h5⟩,h6⟩:=hx
 unfold BL aI
 simp only [Bool.and_eq_true,decide_eq_true_eq]
 refine ⟨⟨h2.1,hh⟩,⟨⟨⟨⟨h1,?_⟩,?_⟩,h4⟩,?_⟩,?_⟩
 ·show 0≤x.now+1∧x.now+1≤s.horizon+1
  omega
 ·exact hl.trans h3
 ·intro i hi
  have hi':i<x.times.length:=by rw [← hl];exact hi
  have h5i:=h5 i hi'
  unfold gA at h5i ⊢
  have e:=Ex hx0 ht (i:=(i:Int)) (by omega)
  show (if i=0 then decide (tm (endX s x ties).times 0=0) else decide (-1≤tm (endX s x ties).times i∧tm (endX s x ties).times i≤x.now+1 - 1))=true
  by_cases hi0:i=0
  ·rw [if_pos hi0] at h5i ⊢
   subst hi0
   rw [show ((0:Nat):Int)=0 from rfl] at e
   rw [e,if_neg (fun h=>(xN h1 ht h).1 rfl)]
   exact h5i
  ·rw [if_neg hi0] at h5i ⊢
   rw [decide_eq_true_eq] at h5i ⊢
   rw [e]
   split
   ·omega
   ·omega
 ·intro i hi
  have h6i:=h6 i hi
  unfold gy at h6i ⊢
  show (decide (tm x.values i≠0) == (decide (0≤aN s.nodes (fun n=>decide (n.watch=(i:Int)+1)))&&decide (tm (endX s x ties).times (aN s.nodes (fun n=>decide (n.watch=(i:Int)+1)))≠-1)))=true
  by_cases hw:0≤aN s.nodes (fun n=>decide (n.watch=(i:Int)+1))
  ·obtain ⟨j,hj,e,hq,_⟩:=iV hw
   rw [Ex hx0 ht hw,if_neg ?_]
   ·exact h6i
   ·intro hm
    have:=(xN h1 ht hm).2 s.nodes[j] (by rw [e,Int.toNat_natCast,List.getElem?_eq_getElem hj])
    rw [decide_eq_true_eq] at hq
    omega
  ·rw [decide_eq_false hw] at h6i ⊢
   simpa using h6i
end Go.Proofs.Qc
set_option maxRecDepth 100000
namespace Go.Proofs.Qc
open Go
def litV (v:List Int)(x:Int):Int:=if x<0 then 0 - tm v (pr x - 1) else tm v (pr x - 1)
def pY (l v:List Int):Int:=l.foldl (fun o x=>if litV v x<o then litV v x else o) 1
theorem CU {x:Int}(h1:-3≤x)(h2:x≤3):pr x≤3:=by
 unfold pr
 split
 ·rw [wr (by omega) (by omega)];omega
 ·omega
theorem dn {v:List Int}(h:ca v=true):v.length=3∧∀ x,x∈v→-1≤x∧x≤1:=by
 unfold ca at h
 simp only [Bool.and_eq_true,decide_eq_true_eq,List.all_eq_true] at h
 exact h
theorem Ey {l v:List Int}(hl:bl l=true)(hv:ca v=true){x:Int}(hx:x∈l):getI v (IntKind.wrap .i64 (pr x - 1))=some (tm v (pr x - 1))∧IntKind.wrap .i64 (0 - tm v (pr x - 1))=0 - tm v (pr x - 1):=by
 obtain ⟨h1,h2,h3⟩:=xS hl hx
 have h4:=CU h2 h3
 obtain ⟨v1,v2⟩:=dn hv
 have hb:=v2 _ (GO (ts:=v) (i:=pr x - 1) (by omega) (by omega))
 rw [wr (x:=pr x - 1) (by omega) (by omega)]
 exact ⟨fc (by omega) (by omega),wr (by omega) (by omega)⟩
theorem xO {l v:List Int}(hl:bl l=true)(hv:ca v=true)(hc:Cnt l.length):fA l v=some (pY l v):=by
 have v1:=(dn hv).1
 unfold fA
 rw [ke l hc,hl]
 simp only [obnd,if_true]
 rw [rQ v (by unfold Cnt;omega),hv]
 simp only [if_true]
 have key:aq (dx v l ((l.length:Nat):Int)) ((l.take 0).foldl (fun o x=>if litV v x<o then litV v x else o) 1,((0:Nat):Int))=some (pY l v):=by
  refine aK l.length (fun i=>((l.take i).foldl (fun o x=>if litV v x<o then litV v x else o) 1,(i:Int))) ?_ ?_
  ·intro i hi
   unfold Cnt at hc
   obtain ⟨e1,e2⟩:=Ey hl hv (List.getElem_mem hi)
   unfold dx
   simp only
   rw [if_pos (by omega),aC hi,wr (x:=(i:Int)+1) (by omega) (by omega)]
   simp only [obnd]
   have hh:kc l[i] v=some (litV v l[i]):=by
    unfold kc litV
    rw [og]
    simp only [obnd]
    rw [e1]
    simp only
    rw [e2]
    split <;> rfl
   rw [hh]
   simp only
   rw [List.take_succ_eq_append_getElem hi,List.foldl_append];rfl
  ·unfold dx
   simp only
   rw [if_neg (by omega),List.take_length];rfl
 rw [List.take_zero] at key
 change obnd (aq _ (1,((0:Nat):Int))) _=_
 rw [show (1:Int)=([]:List Int).foldl (fun o x=>if litV v x<o then litV v x else o) 1 from rfl,key];rfl
theorem DU {l v:List Int}(hl:bl l=true)(hv:ca v=true)(hc:Cnt l.length):gQ l v=some (pY l v):=by
 unfold gQ
 have key:aq (eQ v l ((l.length:Nat):Int)) ((l.take 0).foldl (fun o x=>if litV v x<o then litV v x else o) 1,((0:Nat):Int))=some (pY l v):=by
  refine aK l.length (fun i=>((l.take i).foldl (fun o x=>if litV v x<o then litV v x else o) 1,(i:Int))) ?_ ?_
  ·intro i hi
   unfold Cnt at hc
   obtain ⟨e1,e2⟩:=Ey hl hv (List.getElem_mem hi)
   unfold eQ
   simp only
   rw [if_pos (by omega),aC hi,wr (x:=(i:Int)+1) (by omega) (by omega)]
   simp only [obnd]
   rw [oV]
   simp only
   rw [e1]
   simp only
   rw [e2,List.take_succ_eq_append_getElem hi,List.foldl_append]
   unfold litV
   simp only [List.foldl_cons,List.foldl_nil]
   by_cases hx:l[i]<0
   ·simp only [if_pos hx];rfl
   ·simp only [if_neg hx];rfl
  ·unfold eQ
   simp only
   rw [if_neg (by omega),List.take_length];rfl
 rw [List.take_zero] at key
 change obnd (aq _ (1,((0:Nat):Int))) _=_
 rw [show (1:Int)=([]:List Int).foldl (fun o x=>if litV v x<o then litV v x else o) 1 from rfl,key];rfl
def oc (s:GShow)(k:Int):Int:=aN s.ties (fun t=>t.free&&decide (t.to=k))
def BM (s:GShow)(i:Nat):List Int:=((s.nodes[i]?).map (fun n=>n.label)).getD []
def chAt (s:GShow)(i:Nat):Bool:=decide (0<i)&&decide (oc s (i:Int)<0)
def opAt (s:GShow)(x:GState)(i:Nat):Bool:=decide (tm x.times (i:Int)=-1)&&decide (pY (BM s i) x.values=1)
def enAt (s:GShow)(x:GState)(i:Nat):Bool:=chAt s i&&opAt s x i
def enL (s:GShow)(x:GState):List Int:=bn (enAt s x) s.nodes.length
theorem rR (p:Nat→Bool)(q:Int→Bool):∀ n,(bn p n).filter q=bn (fun i=>p i&&q (i:Int)) n
 | 0=>rfl
 | n+1=>by
  have ih:=rR p q n
  cases hp:p n
  ·rw [bB hp,bB (by simp [hp]),ih]
  ·rw [fL hp,List.filter_append,ih]
   cases hq:q (n:Int)
   ·rw [bB (by simp [hp,hq])];simp [hq]
   ·rw [fL (by simp [hp,hq])];simp [hq]
theorem sV {p q:Nat→Bool}:∀ {n:Nat},(∀ i,i<n→p i=q i)→bn p n=bn q n
 | 0,_=>rfl
 | n+1,h=>by
  have ih:=sV (n:=n) (fun i hi=>h i (by omega))
  have hn:=h n (by omega)
  cases hp:p n
  ·rw [bB hp,bB (by rw [← hn];exact hp),ih]
  ·rw [fL hp,fL (by rw [← hn];exact hp),ih]
theorem FG (s:GShow)(k:Int)(hs:bN s):iG s k=some (oc s k):=by
 unfold iG oc
 rw [rU s.ties _ (fun t=>t.free&&decide (t.to=k)) hs.ties]
 ·rfl
 ·intro t _
  unfold ij
  cases t.free <;> rfl
theorem GZ (s:GShow)(hs:bN s)(hR:pX s):jv s=some (bn (chAt s) s.nodes.length):=by
 have h1:=hR.node1
 have h7:=hR.nodes
 unfold jv
 have key:aq (gr s.nodes s.ties s.horizon) (((0:Nat):Int)+1,bn (chAt s) (0+1))=some (bn (chAt s) s.nodes.length):=by
  refine aK (s.nodes.length - 1) (fun i=>((i:Int)+1,bn (chAt s) (i+1))) ?_ ?_
  ·intro i hi
   have hl:=kv (chAt s) (i+1)
   unfold gr
   simp only
   rw [if_pos (by omega),show (GShow.mk s.nodes s.ties s.horizon)=s from rfl,FG s _ hs,wr (x:=(i:Int)+1+1) (by omega) (by omega),ar (by omega),ar (by omega)]
   simp only [obnd]
   have e:chAt s (i+1)=decide (oc s ((i:Int)+1)<0):=by
    unfold chAt
    rw [decide_eq_true (show 0<i+1 by omega),Bool.true_and];rfl
   by_cases hf:oc s ((i:Int)+1)<0
   ·rw [if_pos hf,fL (n:=i+1) (by rw [e];exact decide_eq_true hf)];rfl
   ·rw [if_neg hf,bB (n:=i+1) (by rw [e];exact decide_eq_false hf)];rfl
  ·unfold gr
   simp only
   rw [if_neg (by omega),show s.nodes.length - 1+1=s.nodes.length by omega]
 have e0:bn (chAt s) (0+1)=[]:=by rw [bB (by rfl)];rfl
 rw [e0] at key
 change obnd (aq _ (((0:Nat):Int)+1,[])) _=_
 rw [key];rfl
theorem CV {s:GShow}(hok:aO s=true){i:Nat}(hi:i<s.nodes.length):bl s.nodes[i].label=true∧0≤s.nodes[i].watch∧s.nodes[i].watch≤3:=by
 unfold aO at hok
 simp only [Bool.and_eq_true] at hok
 have h:=vq hok.1.1.1.1 _ (List.getElem_mem hi)
 have h2:=h
 unfold iQ at h2
 simp only [Bool.and_eq_true,decide_eq_true_eq] at h2
 exact ⟨ta h,h2.2⟩
theorem CW {s:GShow}{i:Nat}(hi:i<s.nodes.length):BM s i=s.nodes[i].label:=by
 unfold BM
 rw [List.getElem?_eq_getElem hi];rfl
structure MomR (s:GShow) (x:GState):Prop where
 ok:aO s=true
 right:pX s
 now:0≤x.now∧x.now≤s.horizon
 len:x.times.length=s.nodes.length
 val:ca x.values=true
 nxt:aI s (BK x)=true
theorem sW {s:GShow}{x:GState}(h:BL s x=true):MomR s x:=by
 unfold BL at h
 simp only [Bool.and_eq_true,decide_eq_true_eq] at h
 obtain ⟨h1,h2⟩:=h
 have h3:=h2
 unfold aI at h2
 simp only [Bool.and_eq_true,decide_eq_true_eq] at h2
 obtain ⟨⟨⟨⟨⟨a1,a2⟩,a3⟩,a4⟩,a5⟩,a6⟩:=h2
 exact ⟨a1,bT a1,h1,a3,a4,h3⟩
theorem FH {s:GShow}{x:GState}(hs:bN s)(h:MomR s x):iH s x=some (enL s x):=by
 have h7:=h.right.nodes
 have hln:=h.len
 have hpl:=kv (chAt s) s.nodes.length
 unfold iH
 rw [GZ s hs h.right]
 simp only [obnd]
 rw [zb _ _ (fun k=>!(decide (tm x.times k=-1)&&decide (pY (BM s k.toNat) x.values=1))) (by unfold Cnt;omega)]
 ·simp only [Bool.not_not]
  rw [rR]
  unfold enL
  rw [sV (q:=enAt s x)]
  intro i hi
  unfold enAt opAt
  rw [Int.toNat_natCast]
 ·intro k hk
  obtain ⟨i,hi,_,rfl⟩:=mJ.1 hk
  unfold ik
  rw [lq (by omega)]
  simp only [obnd]
  by_cases ht:tm x.times (i:Int)=-1
  ·rw [if_pos ht]
   unfold iZ
   rw [aC hi]
   simp only [obnd]
   rw [xO (CV h.ok hi).1 h.val (hs.node _ (List.getElem_mem hi)).2,decide_eq_true ht,Int.toNat_natCast,CW hi]
   simp
  ·rw [if_neg ht,decide_eq_false ht];rfl
theorem AY {s:GShow}{x:GState}(hs:bN s)(h:MomR s x):fo s x=some (enL s x):=by
 have h7:=h.right.nodes
 have hln:=h.len
 unfold fo
 have key:aq (dv s.nodes ((s.nodes.length:Nat):Int) s.ties s.horizon x.now x.times x.values) (((0:Nat):Int),bn (enAt s x) 0)=some (enL s x):=by
  refine aK s.nodes.length (fun i=>((i:Int),bn (enAt s x) i)) ?_ ?_
  ·intro i hi
   have hpl:=kv (enAt s x) i
   unfold dv
   simp only
   rw [if_pos (by omega),aC hi,show (GShow.mk s.nodes s.ties s.horizon)=s from rfl,xR s _ hs.ties,lq (by omega),wr (x:=(i:Int)+1) (by omega) (by omega),ar (by omega),ar (by omega)]
   simp only [obnd]
   rw [DU (CV h.ok hi).1 h.val (hs.node _ (List.getElem_mem hi)).2]
   simp only
   have e:enAt s x i=(decide (0<i)&&decide (oc s (i:Int)<0)&&(decide (tm x.times (i:Int)=-1)&&decide (pY s.nodes[i].label x.values=1))):=by
    unfold enAt chAt opAt
    rw [CW hi]
   change (if (0:Int)<(i:Int) then (if oc s (i:Int)<0 then _ else _) else _)=_
   by_cases h0:0<i
   ·rw [if_pos (by omega)]
    by_cases hf:oc s (i:Int)<0
    ·rw [if_pos hf]
     by_cases ht:tm x.times (i:Int)=-1
     ·rw [if_pos ht]
      by_cases hs1:pY s.nodes[i].label x.values=1
      ·rw [if_pos hs1,fL (by rw [e,decide_eq_true h0,decide_eq_true hf,decide_eq_true ht,decide_eq_true hs1];rfl)];rfl
      ·rw [if_neg hs1,bB (by rw [e,decide_eq_false hs1];simp)];rfl
     ·rw [if_neg ht,bB (by rw [e,decide_eq_false ht];simp)];rfl
    ·rw [if_neg hf,bB (by rw [e,decide_eq_false hf];simp)];rfl
   ·rw [if_neg (by omega),bB (by rw [e,decide_eq_false h0];rfl)];rfl
  ·unfold dv
   simp only
   rw [if_neg (by omega)];rfl
 rw [qg] at key
 change obnd (aq _ (((0:Nat):Int),[])) _=_
 rw [key];rfl
def nK (s:GShow)(x:GState)(j:Nat):List Int:=sel (bH ((2^(enL s x).length - 1 - j:Nat):Int)) (enL s x) (enL s x).length
def decL (s:GShow)(x:GState):List (List Int):=(List.range (2^(enL s x).length)).map (nK s x)
theorem tW {s:GShow}(hR:pX s)(x:GState):(enL s x).length≤7:=by
 have:=kv (enAt s x) s.nodes.length
 have:=hR.nodes
 unfold enL;omega
theorem CX {s:GShow}{x:GState}(hs:bN s)(h:MomR s x):gu s x=some (decL s x):=by
 have h7:=tW h.right x
 have hpow:=rv h7
 have hpos:0<2^(enL s x).length:=Nat.pow_pos (by omega)
 unfold gu
 rw [FH hs h]
 simp only [obnd]
 rw [ar (by omega),qU h7]
 unfold decL
 have hd:∀ j,nK s x j=sel (bH ((2^(enL s x).length - 1 - j:Nat):Int)) (enL s x) (enL s x).length:=fun _=>rfl
 generalize 2^(enL s x).length=q at *
 rw [wr (by omega) (by omega)]
 have key:aq (dZ (enL s x)) ((q:Int) - 1 - ((0:Nat):Int),(List.range 0).map (nK s x))=some ((List.range q).map (nK s x)):=by
  refine aK q (fun i=>((q:Int) - 1 - (i:Int),(List.range i).map (nK s x))) ?_ ?_
  ·intro i hi
   unfold dZ
   simp only
   rw [if_pos (by omega),xK _ _ (by omega),wr (by omega) (by omega)]
   simp only [obnd]
   rw [ar (by simp;omega),ar (by simp;omega),kw,hd i,show (((q - 1 - i:Nat)):Int)=(q:Int) - 1 - (i:Int) by omega,show (q:Int) - 1 - (i:Int) - 1=(q:Int) - 1 - ((i+1:Nat):Int) by omega]
  ·unfold dZ
   simp only
   rw [if_neg (by omega)]
 simp only [List.range_zero,List.map_nil,Int.natCast_zero,Int.sub_zero] at key
 rw [key]
theorem DV {s:GShow}{x:GState}(hs:bN s)(h:MomR s x):gP s x=some true:=by
 have hh:=h.right.hor
 have hn:=h.now
 have h7:=h.right.nodes
 have hln:=h.len
 have hv:=(dn h.val).1
 unfold gP
 rw [fg,decide_eq_true (by omega)]
 simp only [obnd,if_true]
 rw [nM s hs,h.ok]
 simp only [if_true]
 rw [if_neg (by omega),oU x (by omega) (by omega)]
 simp only
 rw [wr (by omega) (by omega)]
 change obnd (de s (BK x)) _=_
 rw [px s (BK x) hs (by show x.times.length≤_;omega) (by show x.values.length≤_;omega),h.nxt];rfl
theorem zi {s:GShow}{x:GState}(hs:bN s)(h:MomR s x):eR s x=some (decL s x):=by
 have h7:=tW h.right x
 have hpow:=rv h7
 have hpos:0<2^(enL s x).length:=Nat.pow_pos (by omega)
 unfold eR
 rw [DV hs h]
 simp only [obnd,if_true]
 rw [AY hs h]
 simp only
 rw [wru (by omega),ar (by omega),Int.toNat_natCast,qU h7]
 unfold decL
 have hd:∀ j,nK s x j=sel (bH ((2^(enL s x).length - 1 - j:Nat):Int)) (enL s x) (enL s x).length:=fun _=>rfl
 generalize 2^(enL s x).length=q at *
 rw [wr (by omega) (by omega)]
 have key:aq (dg (enL s x)) ((q:Int) - 1 - ((0:Nat):Int),(List.range 0).map (nK s x))=some ((List.range q).map (nK s x)):=by
  refine aK q (fun i=>((q:Int) - 1 - (i:Int),(List.range i).map (nK s x))) ?_ ?_
  ·intro i hi
   unfold dg
   simp only
   rw [if_pos (by omega),xL _ _ (by omega),wr (by omega) (by omega)]
   simp only [obnd]
   rw [ar (by simp;omega),ar (by simp;omega),kw,hd i,show (((q - 1 - i:Nat)):Int)=(q:Int) - 1 - (i:Int) by omega,show (q:Int) - 1 - (i:Int) - 1=(q:Int) - 1 - ((i+1:Nat):Int) by omega]
  ·unfold dg
   simp only
   rw [if_neg (by omega)]
 simp only [List.range_zero,List.map_nil,Int.natCast_zero,Int.sub_zero] at key
 rw [key]
theorem nL {s:GShow}{x:GState}{k:Int}(h:k∈enL s x):∃ i,i<s.nodes.length∧k=(i:Int)∧0<i∧tm x.times (i:Int)=-1:=by
 obtain ⟨i,hi,hp,rfl⟩:=mJ.1 h
 unfold enAt chAt opAt at hp
 simp only [Bool.and_eq_true,decide_eq_true_eq] at hp
 exact ⟨i,hi,rfl,hp.1.1,hp.2.1⟩
theorem oe {s:GShow}{x:GState}(hR:pX s){nodes:List Int}(h:nodes∈decL s x):Asc nodes∧nodes.length≤7∧∀ k,k∈nodes→k∈enL s x:=by
 unfold decL at h
 rw [List.mem_map] at h
 obtain ⟨j,_,rfl⟩:=h
 have h7:=tW hR x
 have:=qR (bH ((2^(enL s x).length - 1 - j:Nat):Int)) (enL s x) (enL s x).length
 exact ⟨zg (oT _ _) _ (Nat.le_refl _),by unfold nK;omega,fun k hk=>CO hk⟩
theorem CY {s:GShow}(hR:pX s)(x:GState):(decL s x).length≤128:=by
 unfold decL
 simpa using rv (tW hR x)
def qV (s:GShow)(k:Int):Int:=((s.nodes[k.toNat]?).map (fun n=>n.watch)).getD 0
def cd (s:GShow)(p:Int):Int:=aN s.nodes (fun n=>decide (n.watch=p))
def aQ (s:GShow)(nodes:List Int):List Int:=[1,2,3].filter (fun p=>decide (cd s p∈nodes))
def decX (x:GState)(nodes:List Int):GState:=⟨x.now,aZ (fun k=>k) x.now nodes x.times,x.values⟩
theorem xP {s:GShow}(hok:aO s=true){i j:Nat}(hi:i<s.nodes.length)(hj:j<s.nodes.length)(h:s.nodes[i].watch=s.nodes[j].watch)(h0:s.nodes[i].watch≠0):i=j:=by
 have key:∀ {i j:Nat} (hi:i<s.nodes.length) (hj:j<s.nodes.length),s.nodes[i].watch=s.nodes[j].watch→s.nodes[j].watch≠0→¬ i<j:=by
  intro i j hi hj he hn hlt
  unfold aO hU at hok
  simp only [Bool.and_eq_true,decide_eq_true_eq] at hok
  have hp:=hok.1.1.1.1.2 j hj
  rw [pD hj,Bool.and_eq_true] at hp
  have hE:=hp.2
  unfold oZ at hE
  rw [List.all_eq_true] at hE
  have:=hE s.nodes[i] (List.mem_take_iff_getElem.2 ⟨i,by omega,rfl⟩)
  simp only [Bool.and_eq_true,Bool.or_eq_true,Bool.not_eq_true',decide_eq_false_iff_not,decide_eq_true_eq] at this
  rcases this.2 with h1 | h1
  ·exact hn h1
  ·exact h1 he
 rcases Nat.lt_trichotomy i j with hlt | he | hlt
 ·exact absurd hlt (key hi hj h (by rw [← h];exact h0))
 ·exact he
 ·exact absurd hlt (key hj hi h.symm h0)
theorem FI {s:GShow}(hok:aO s=true){i:Nat}(hi:i<s.nodes.length)(h0:s.nodes[i].watch≠0):cd s s.nodes[i].watch=(i:Int):=by
 unfold cd
 have h1:0≤aN s.nodes (fun n=>decide (n.watch=s.nodes[i].watch)):=by
  have:=mi (xs:=s.nodes) (q:=fun n=>decide (n.watch=s.nodes[i].watch))
  have h2:s.nodes.any (fun n=>decide (n.watch=s.nodes[i].watch))=true:=List.any_eq_true.2 ⟨_,List.getElem_mem hi,by simp⟩
  rw [h2] at this
  exact of_decide_eq_true this
 obtain ⟨j,hj,e,hq,_⟩:=iV h1
 rw [e,xP hok hj hi (of_decide_eq_true hq) (by rw [of_decide_eq_true hq];exact h0)]
theorem kx {s:GShow}{i:Nat}(hi:i<s.nodes.length):qV s (i:Int)=s.nodes[i].watch:=by
 unfold qV
 rw [Int.toNat_natCast,List.getElem?_eq_getElem hi];rfl
def wl (s:GShow)(nodes:List Int):List Int:=(nodes.map (qV s)).filter (fun p=>!decide (p=0))
theorem Ha (s:GShow)(nodes:List Int):Asc (aQ s nodes):=by
 have:Asc [1,2,3]:=by unfold Asc;decide
 exact this.filter _
theorem Io {s:GShow}{x:GState}(hok:aO s=true){nodes:List Int}(ha:Asc nodes)(hn:∀ k,k∈nodes→k∈enL s x):(wl s nodes).Nodup∧∀ p,p∈wl s nodes↔p∈aQ s nodes:=by
 constructor
 ·unfold wl
  rw [List.filter_map]
  unfold List.Nodup
  rw [List.pairwise_map]
  refine List.Pairwise.imp_of_mem ?_ (ha.filter _)
  intro a b h1 h2 hab he
  rw [List.mem_filter] at h1 h2
  obtain ⟨i,hi,rfl,_,_⟩:=nL (hn _ h1.1)
  obtain ⟨j,hj,rfl,_,_⟩:=nL (hn _ h2.1)
  have h3:=h1.2
  simp only [Function.comp,Bool.not_eq_true',decide_eq_false_iff_not] at h3
  rw [kx hi,kx hj] at he
  rw [kx hi] at h3
  have:=xP hok hi hj he h3
  omega
 ·intro p
  unfold wl aQ
  rw [List.mem_filter,List.mem_filter,List.mem_map]
  simp only [Bool.not_eq_true',decide_eq_false_iff_not,decide_eq_true_eq]
  constructor
  ·rintro ⟨⟨k,hk,rfl⟩,h0⟩
   obtain ⟨i,hi,rfl,_,_⟩:=nL (hn _ hk)
   rw [kx hi] at h0 ⊢
   have hw:=(CV hok hi).2
   refine ⟨?_,?_⟩
   ·simp only [List.mem_cons,List.not_mem_nil,or_false];omega
   ·rw [FI hok hi h0];exact hk
  ·rintro ⟨h3,hw⟩
   obtain ⟨i,hi,e,_,_⟩:=nL (hn _ hw)
   have h0:0≤cd s p:=by omega
   obtain ⟨j,hj,e2,hq,_⟩:=iV h0
   have hwp:=of_decide_eq_true hq
   unfold cd at hw
   rw [e2] at hw
   refine ⟨⟨(j:Int),hw,by rw [kx hj];exact hwp⟩,?_⟩
   simp only [List.mem_cons,List.not_mem_nil,or_false] at h3
   omega
theorem Ai (s:GShow)(nodes:List Int):(aQ s nodes).length≤3:=by
 have:=List.length_filter_le (fun p=>decide (cd s p∈nodes)) [1,2,3]
 simpa [aQ] using this
theorem hM {s:GShow}{nodes:List Int}{p:Int}(h:p∈aQ s nodes):1≤p∧p≤3∧cd s p∈nodes:=by
 unfold aQ at h
 rw [List.mem_filter] at h
 simp only [List.mem_cons,List.not_mem_nil,or_false,decide_eq_true_eq] at h
 exact ⟨by omega,by omega,h.2⟩
theorem FJ {s:GShow}{x:GState}(h:MomR s x){nodes:List Int}(ha:Asc nodes)(hl7:nodes.length≤7)(hn:∀ k,k∈nodes→k∈enL s x):iI s x nodes=some (decX x nodes,aQ s nodes):=by
 have h7:=h.right.nodes
 have hln:=h.len
 have hv:=(dn h.val).1
 unfold iI
 rw [pA x (by omega) (by omega)]
 simp only [obnd]
 have key:aq (fB nodes ((nodes.length:Nat):Int) s.nodes s.ties s.horizon x.now x.times x.values x.now x.values) (((0:Nat):Int),wl s (nodes.take 0),aZ (fun k=>k) x.now (nodes.take 0) x.times)=some (wl s nodes,aZ (fun k=>k) x.now nodes x.times):=by
  refine aK nodes.length (fun i=>((i:Int),wl s (nodes.take i),aZ (fun k=>k) x.now (nodes.take i) x.times)) ?_ ?_
  ·intro i hi
   obtain ⟨j,hj,e,_,_⟩:=nL (hn _ (List.getElem_mem hi))
   have hwl:(wl s (nodes.take i)).length≤7:=by
    have:=List.length_filter_le (fun p=>!decide (p=0)) ((nodes.take i).map (qV s))
    rw [List.length_map,List.length_take] at this
    unfold wl;omega
   have hw1:wl s (nodes.take (i+1))=wl s (nodes.take i)++(if s.nodes[j].watch=0 then [] else [s.nodes[j].watch]):=by
    unfold wl
    rw [List.take_succ_eq_append_getElem hi,List.map_append,List.filter_append,e]
    simp only [List.map_cons,List.map_nil]
    rw [kx hj]
    by_cases h0:s.nodes[j].watch=0 <;> simp [h0]
   unfold fB
   simp only
   rw [if_pos (by omega),aC hi,e]
   simp only [obnd]
   rw [fc (ts:=aZ (fun k=>k) x.now (nodes.take i) x.times) (by omega) (by rw [cT];omega),aC hj,wr (x:=(i:Int)+1) (by omega) (by omega)]
   simp only
   rw [ar (by omega),ar (by omega),hw1,List.take_succ_eq_append_getElem hi,nJ,e]
   by_cases h0:s.nodes[j].watch=0
   ·rw [if_pos h0,if_pos h0,List.append_nil];rfl
   ·rw [if_neg h0,if_neg h0];rfl
  ·unfold fB
   simp only
   rw [if_neg (by omega),List.take_length]
 rw [List.take_zero] at key
 change obnd (aq _ (((0:Nat):Int),wl s [],aZ (fun k=>k) x.now [] x.times)) _=_
 rw [key]
 simp only [obnd]
 have hwl:(wl s nodes).length≤7:=by
  have:=List.length_filter_le (fun p=>!decide (p=0)) (nodes.map (qV s))
  rw [List.length_map] at this
  unfold wl;omega
 obtain ⟨r,e,hp,hs⟩:=Eu (wl s nodes) (by omega)
 obtain ⟨w1,w2⟩:=Io h.ok ha hn
 have er:r=aQ s nodes:=zd (Ad hs (hp.nodup_iff.2 w1)) (Ha s nodes) (fun y=>by rw [hp.mem_iff,w2])
 rw [e]
 simp only
 rw [ar hp.length_eq,er];rfl
theorem CZ {s:GShow}{x:GState}(hs:bN s)(h:MomR s x){nodes:List Int}(hl7:nodes.length≤7)(hn:∀ k,k∈nodes→k∈enL s x):gi s x nodes=some (decX x nodes,aQ s nodes):=by
 have h7:=h.right.nodes
 have hln:=h.len
 have hv:=(dn h.val).1
 unfold gi
 rw [oU x (by omega) (by omega)]
 simp only [obnd]
 have key:aq (dS nodes ((nodes.length:Nat):Int) s.nodes s.ties s.horizon x.now x.times x.values x.now x.values) (((0:Nat):Int),aZ (fun k=>k) x.now (nodes.take 0) x.times)=some (aZ (fun k=>k) x.now nodes x.times):=by
  refine aK nodes.length (fun i=>((i:Int),aZ (fun k=>k) x.now (nodes.take i) x.times)) ?_ ?_
  ·intro i hi
   obtain ⟨j,hj,e,_,_⟩:=nL (hn _ (List.getElem_mem hi))
   unfold dS
   simp only
   rw [if_pos (by omega),aC hi,e]
   simp only [obnd]
   rw [fc (ts:=aZ (fun k=>k) x.now (nodes.take i) x.times) (by omega) (by rw [cT];omega),wr (x:=(i:Int)+1) (by omega) (by omega),List.take_succ_eq_append_getElem hi,nJ,e];rfl
  ·unfold dS
   simp only
   rw [if_neg (by omega),List.take_length]
 rw [List.take_zero] at key
 change obnd (aq _ (((0:Nat):Int),aZ (fun k=>k) x.now [] x.times)) _=_
 rw [key]
 simp only [obnd]
 have key2:aq (dT nodes s.nodes s.ties s.horizon x.now (aZ (fun k=>k) x.now nodes x.times) x.values) (((0:Nat):Int)+1,([1,2,3].take 0).filter (fun p=>decide (cd s p∈nodes)))=some (aQ s nodes):=by
  refine aK 3 (fun i=>((i:Int)+1,([1,2,3].take i).filter (fun p=>decide (cd s p∈nodes)))) ?_ ?_
  ·intro i hi
   have hl:=List.length_filter_le (fun p=>decide (cd s p∈nodes)) ([1,2,3].take i)
   rw [List.length_take] at hl
   have e3:([1,2,3]:List Int)[i]'(by simpa using hi)=(i:Int)+1:=by
    have:i=0∨i=1∨i=2:=by omega
    rcases this with rfl | rfl | rfl <;> rfl
   unfold dT
   simp only
   rw [if_pos (by omega),show (GShow.mk s.nodes s.ties s.horizon)=s from rfl,lm s _ hs.nodes]
   simp only [obnd]
   rw [oh _ _ (by unfold Cnt;omega),wr (x:=(i:Int)+1+1) (by omega) (by omega),ar (by omega),ar (by omega),kX _ (by simpa using hi),e3]
   simp only
   change (if decide (cd s ((i:Int)+1)∈nodes)=true then _ else _)=_
   cases decide (cd s ((i:Int)+1)∈nodes)
   ·rw [if_neg (by simp),if_neg (by simp),List.append_nil];rfl
   ·rw [if_pos rfl,if_pos rfl];rfl
  ·unfold dT
   simp only
   rw [if_neg (by omega)];rfl
 simp only [List.take_zero,List.filter_nil,Int.natCast_zero,Int.zero_add] at key2
 rw [key2];rfl
def setV (ps vs v:List Int)(n:Nat):List Int:=(List.range n).foldl (fun v i=>v.set (ps.getD i 0 - 1).toNat (vs.getD i 0)) v
theorem lP (ps vs v:List Int)(n:Nat):setV ps vs v (n+1)=(setV ps vs v n).set (ps.getD n 0 - 1).toNat (vs.getD n 0):=by
 unfold setV
 rw [List.range_succ,List.foldl_append];rfl
theorem nu (ps vs v:List Int):∀ n,(setV ps vs v n).length=v.length
 | 0=>rfl
 | n+1=>by rw [lP,List.length_set,nu ps vs v n]
def obsX (x:GState)(ps vs:List Int):GState:=⟨x.now+1,x.times,setV ps vs x.values ps.length⟩
theorem vm (x:GState)(ps vs:List Int)(hn:0≤x.now∧x.now≤1000)(h1:x.times.length≤1048576)(h2:x.values.length=3)(hp:∀ p,p∈ps→1≤p∧p≤3)(hl:vs.length=ps.length)(hl2:ps.length≤1000) :
  gW x ps vs=some (obsX x ps vs)∧gj x ps vs=some (obsX x ps vs):=by
 have pb:∀ i,i<ps.length→1≤ps.getD i 0∧ps.getD i 0≤3:=by
  intro i hi
  rw [List.getD_eq_getElem?_getD,List.getElem?_eq_getElem hi]
  exact hp _ (List.getElem_mem hi)
 constructor
 ·unfold gW
  rw [pA x h1 (by omega)]
  simp only [obnd]
  have key:aq (eU vs ps ((ps.length:Nat):Int) x.now x.times) (((0:Nat):Int),setV ps vs x.values 0)=some (setV ps vs x.values ps.length):=by
   refine aK ps.length (fun i=>((i:Int),setV ps vs x.values i)) ?_ ?_
   ·intro i hi
    have hb:=pb i hi
    unfold eU
    simp only
    rw [if_pos (by omega),bk hi,bk (by omega),wr (x:=(i:Int)+1) (by omega) (by omega)]
    simp only [obnd]
    rw [wr (x:=ps.getD i 0 - 1) (by omega) (by omega),fc (ts:=setV ps vs x.values i) (by omega) (by rw [nu];omega)]
    simp only
    rw [lP];rfl
   ·unfold eU
    simp only
    rw [if_neg (by omega)]
  change obnd (aq _ (((0:Nat):Int),setV ps vs x.values 0)) _=_
  rw [key]
  simp only [obnd]
  rw [wr (by omega) (by omega)];rfl
 ·unfold gj
  rw [oU x h1 (by omega)]
  simp only [obnd]
  have key:aq (dU vs ps ((ps.length:Nat):Int) x.now x.times) (((0:Nat):Int),setV ps vs x.values 0)=some (setV ps vs x.values ps.length):=by
   refine aK ps.length (fun i=>((i:Int),setV ps vs x.values i)) ?_ ?_
   ·intro i hi
    have hb:=pb i hi
    unfold dU
    simp only
    rw [if_pos (by omega),bk hi,bk (by omega),wr (x:=(i:Int)+1) (by omega) (by omega)]
    simp only [obnd]
    rw [wr (x:=ps.getD i 0 - 1) (by omega) (by omega),fc (ts:=setV ps vs x.values i) (by omega) (by rw [nu];omega)]
    simp only
    rw [lP];rfl
   ·unfold dU
    simp only
    rw [if_neg (by omega)]
  change obnd (aq _ (((0:Nat):Int),setV ps vs x.values 0)) _=_
  rw [key]
  simp only [obnd]
  rw [wr (by omega) (by omega)];rfl
theorem zj {ps vs v:List Int}(hv:v.length=3)(hp:∀ p,p∈ps→1≤p∧p≤3):∀ n,n≤ps.length→∀ k:Int,0≤k→(∀ i,i<n→ps.getD i 0 - 1≠k)→tm (setV ps vs v n) k=tm v k
 | 0,_,k,_,_=>rfl
 | n+1,hn,k,hk,h=>by
  rw [lP]
  have hb:=hp (ps.getD n 0) (by rw [List.getD_eq_getElem?_getD,List.getElem?_eq_getElem (show n<ps.length by omega)];exact List.getElem_mem _)
  rw [CT _ _ _ _ (by omega) (by rw [nu];omega) hk,if_neg (fun e=>h n (by omega) e.symm)]
  exact zj hv hp n (by omega) k hk (fun i hi=>h i (by omega))
theorem Ez {ps vs v:List Int}(hv:v.length=3)(hp:∀ p,p∈ps→1≤p∧p≤3)(hl:vs.length=ps.length):∀ n,n≤ps.length→∀ k:Int,0≤k→(∃ i,i<n∧ps.getD i 0 - 1=k)→tm (setV ps vs v n) k∈vs
 | 0,_,k,_,h=>by obtain ⟨i,hi,_⟩:=h;omega
 | n+1,hn,k,hk,h=>by
  rw [lP]
  have hb:=hp (ps.getD n 0) (by rw [List.getD_eq_getElem?_getD,List.getElem?_eq_getElem (show n<ps.length by omega)];exact List.getElem_mem _)
  rw [CT _ _ _ _ (by omega) (by rw [nu];omega) hk]
  by_cases e:k=ps.getD n 0 - 1
  ·rw [if_pos e,List.getD_eq_getElem?_getD,List.getElem?_eq_getElem (show n<vs.length by omega)]
   exact List.getElem_mem _
  ·rw [if_neg e]
   obtain ⟨i,hi,he⟩:=h
   exact Ez hv hp hl n (by omega) k hk ⟨i,by rcases Nat.lt_or_ge i n with h1 | h1;exact h1;exact absurd (by rw [← he,show i=n by omega]) e,he⟩
theorem Da {ps vs v:List Int}{y:Int}:∀ n,y∈setV ps vs v n→y∈v∨∃ i,i<n∧y=vs.getD i 0
 | 0,h=>.inl h
 | n+1,h=>by
  rw [lP] at h
  rcases List.mem_or_eq_of_mem_set h with h | h
  ·rcases Da n h with h | ⟨i,hi,h⟩
   ·exact .inl h
   ·exact .inr ⟨i,by omega,h⟩
  ·exact .inr ⟨n,by omega,h⟩
theorem Mq {s:GShow}{x:GState}(h:MomR s x){nodes:List Int}(hn:∀ k,k∈nodes→k∈enL s x){vs:List Int}(hl:vs.length=(aQ s nodes).length)(hv:∀ v,v∈vs→v=1∨v=-1) :
  aI s (obsX (decX x nodes) (aQ s nodes) vs)=true:=by
 have h7:=h.right.nodes
 have hln:=h.len
 obtain ⟨v1,v2⟩:=dn h.val
 have hnx:=h.nxt
 have hp:∀ p,p∈aQ s nodes→1≤p∧p≤3:=fun p hp=>⟨(hM hp).1,(hM hp).2.1⟩
 have htm:∀ {i:Int},0≤i→tm (aZ (fun k=>k) x.now nodes x.times) i=if i∈nodes then x.now else tm x.times i:=by
  intro i hi
  rw [sU _ _ _ _ _ hi (fun k hk=>by obtain ⟨j,hj,e,_,_⟩:=nL (hn k hk);omega),List.map_id']
 unfold aI at hnx
 simp only [Bool.and_eq_true,decide_eq_true_eq] at hnx
 obtain ⟨⟨⟨⟨⟨a1,a2⟩,a3⟩,a4⟩,a5⟩,a6⟩:=hnx
 have hT:(obsX (decX x nodes) (aQ s nodes) vs).times=aZ (fun k=>k) x.now nodes x.times:=rfl
 have hN:(obsX (decX x nodes) (aQ s nodes) vs).now=x.now+1:=rfl
 have hV:(obsX (decX x nodes) (aQ s nodes) vs).values=setV (aQ s nodes) vs x.values (aQ s nodes).length:=rfl
 unfold aI
 simp only [Bool.and_eq_true,decide_eq_true_eq]
 refine ⟨⟨⟨⟨⟨h.ok,?_⟩,?_⟩,?_⟩,?_⟩,?_⟩
 ·rw [hN];have:=h.now;omega
 ·rw [hT,cT];exact hln
 ·rw [hV]
  unfold ca
  rw [Bool.and_eq_true,decide_eq_true_eq,List.all_eq_true,nu]
  refine ⟨v1,?_⟩
  intro y hy
  rcases Da _ hy with h1 | ⟨i,hi,rfl⟩
  ·exact decide_eq_true (v2 y h1)
  ·have:=hv (vs.getD i 0) (by rw [List.getD_eq_getElem?_getD,List.getElem?_eq_getElem (show i<vs.length by omega)];exact List.getElem_mem _)
   exact decide_eq_true (by omega)
 ·intro i hi
  rw [hT,cT] at hi
  have h5:=a5 i hi
  unfold gA at h5 ⊢
  rw [hT,hN]
  change (if i=0 then decide (tm x.times 0=0) else decide (-1≤tm x.times i∧tm x.times i≤x.now+1 - 1))=true at h5
  by_cases h0:i=0
  ·rw [if_pos h0] at h5 ⊢
   rw [htm (Int.le_refl 0),if_neg (fun hm=>by obtain ⟨j,_,e,hj,_⟩:=nL (hn _ hm);omega)]
   exact h5
  ·rw [if_neg h0] at h5 ⊢
   rw [decide_eq_true_eq] at h5 ⊢
   rw [htm (by omega)]
   have:=h.now
   split <;> omega
 ·intro i hi
  have h6:=a6 i hi
  unfold gy at h6 ⊢
  rw [hT,hV]
  change (decide (tm x.values i≠0) == (decide (0≤cd s ((i:Int)+1))&&decide (tm x.times (cd s ((i:Int)+1))≠-1)))=true at h6
  change (decide (tm (setV (aQ s nodes) vs x.values (aQ s nodes).length) i≠0) == (decide (0≤cd s ((i:Int)+1))&&decide (tm (aZ (fun k=>k) x.now nodes x.times) (cd s ((i:Int)+1))≠-1)))=true
  by_cases hw:0≤cd s ((i:Int)+1)
  ·rw [decide_eq_true hw,Bool.true_and,htm hw]
   rw [decide_eq_true hw,Bool.true_and] at h6
   by_cases hm:cd s ((i:Int)+1)∈nodes
   ·rw [if_pos hm,decide_eq_true (show x.now≠-1 by have:=h.now;omega)]
    have hpm:(i:Int)+1∈aQ s nodes:=by
     unfold aQ
     rw [List.mem_filter]
     unfold fF at hi
     refine ⟨?_,decide_eq_true hm⟩
     simp only [List.mem_cons,List.not_mem_nil,or_false]
     omega
    obtain ⟨j,hj,e⟩:=List.getElem_of_mem hpm
    have hin:=Ez v1 hp hl _ (Nat.le_refl _) (i:Int) (by omega) ⟨j,hj,by rw [List.getD_eq_getElem?_getD,List.getElem?_eq_getElem hj,e,Option.getD_some];omega⟩
    have:=hv _ hin
    rw [decide_eq_true (show tm (setV (aQ s nodes) vs x.values (aQ s nodes).length) i≠0 by omega)];rfl
   ·rw [if_neg hm,zj v1 hp _ (Nat.le_refl _) _ (by omega)]
    ·exact h6
    ·intro j hj he
     refine hm ?_
     have:=(hM (s:=s) (nodes:=nodes) (p:=(aQ s nodes).getD j 0) (by rw [List.getD_eq_getElem?_getD,List.getElem?_eq_getElem hj];exact List.getElem_mem _)).2.2
     rwa [show (aQ s nodes).getD j 0=(i:Int)+1 by omega] at this
  ·rw [decide_eq_false hw] at h6 ⊢
   rw [zj v1 hp _ (Nat.le_refl _) _ (by omega)]
   ·simpa using h6
   ·intro j hj he
    have:=(hM (s:=s) (nodes:=nodes) (p:=(aQ s nodes).getD j 0) (by rw [List.getD_eq_getElem?_getD,List.getElem?_eq_getElem hj];exact List.getElem_mem _)).2.2
    rw [show (aQ s nodes).getD j 0=(i:Int)+1 by omega] at this
    obtain ⟨q,hq,e,_,_⟩:=nL (hn _ this)
    omega
end Go.Proofs.Qc
set_option maxRecDepth 100000
namespace Go.Proofs.Qc
open Go
def ky:GState:=⟨0,[],[]⟩
def sgn (x:Int):Int:=if x<0 then -1 else 1
def nw (s:GShow)(x:GState)(e:GEntry):Prop:=e.now=x.now∧e.ties∈mK s x∧bl e.values=true∧e.nodes∈decL s (endX s x e.ties)∧e.values.map pr=aQ s e.nodes
noncomputable instance (s:GShow) (x:GState) (e:GEntry):Decidable (nw s x e):=Classical.propDecidable _
noncomputable def cH (s:GShow)(x:GState)(e:GEntry):GState × Bool:=
 if nw s x e then (obsX (decX (endX s x e.ties) e.nodes) (aQ s e.nodes) (e.values.map sgn),true) else (ky,false)
theorem Db {x:Int}(h0:x≠0)(h1:-3≤x)(h2:x≤3):(0≤x→pr x=x)∧(x<0→pr x=0 - x)∧Int.tdiv x (pr x)=sgn x∧IntKind.wrap .i64 (Int.tdiv x (pr x))=sgn x:=by
 have key:∀ y:Int,y=-3∨y=-2∨y=-1∨y=1∨y=2∨y=3→(0≤y→pr y=y)∧(y<0→pr y=0 - y)∧Int.tdiv y (pr y)=sgn y∧IntKind.wrap .i64 (Int.tdiv y (pr y))=sgn y:=by
  intro y hy
  rcases hy with rfl | rfl | rfl | rfl | rfl | rfl <;> decide
 exact key x (by omega)
theorem ry {l:List Int}(h:bl l=true){x:Int}(hx:x∈l):x≠0∧-3≤x∧x≤3∧1≤pr x∧pr x≤3:=by
 obtain ⟨h1,h2,h3⟩:=xS h hx
 have h4:=CU h2 h3
 refine ⟨?_,h2,h3,by omega,h4⟩
 rintro rfl
 have:pr 0=0:=rfl
 omega
theorem EA {l:List Int}(h:bl l=true)(hc:l.length≤1048576):l.length≤3:=by
 have hasc:Asc (l.map pr):=by
  unfold Asc
  rw [List.pairwise_iff_getElem]
  intro i j hi hj hij
  rw [List.length_map] at hi hj
  simp only [List.getElem_map]
  have hl:=h
  unfold bl at hl
  rw [decide_eq_true_eq] at hl
  have step:∀ n (hn:n+1<l.length),pr (l[n]'(by omega))<pr l[n+1]:=by
   intro n hn
   have:=hl (n+1) hn
   unfold labP at this
   rw [decide_eq_true_eq] at this
   have:=this.2.2.2 (by omega)
   rw [List.getD_eq_getElem?_getD,List.getD_eq_getElem?_getD,show n+1 - 1=n by omega,List.getElem?_eq_getElem (by omega),List.getElem?_eq_getElem hn] at this
   exact this
  have mono:∀ k,∀ hk:i+k+1<l.length,pr (l[i]'(by omega))<pr l[i+k+1]:=by
   intro k
   induction k with
   | zero=>intro hk;exact step i hk
   | succ k ih=>
    intro hk
    have h1:=ih (by omega)
    have h2:=step (i+k+1) hk
    show pr l[i]<pr l[i+k+1+1]
    omega
  have:=mono (j - i - 1) (by omega)
  have e:i+(j - i - 1)+1=j:=by omega
  simp only [e] at this
  exact this
 have:=sT (r:=[1,2,3]) hasc.nodup (fun y hy=>by
  rw [List.mem_map] at hy
  obtain ⟨x,hx,rfl⟩:=hy
  obtain ⟨_,_,_,h1,h2⟩:=ry h hx
  simp only [List.mem_cons,List.not_mem_nil,or_false]
  omega)
 simpa using this
theorem kY {s:GShow}{x:GState}(h:aI s x=true):aO s=true∧x.values.length=3∧x.times.length≤7:=by
 have hR:=cv h
 have hl:=hR.len
 have h7:=hR.right.nodes
 unfold aI at h
 simp only [Bool.and_eq_true] at h
 exact ⟨h.1.1.1.1.1,(dn h.1.1.2).1,by omega⟩
theorem FK {s:GShow}{x:GState}{e:GEntry}(hs:bN s)(hx:aI s x=true)(he:FitE e):kd s x e=some (cH s x e):=by
 obtain ⟨hok,hv3,ht7⟩:=kY hx
 have e1:=he.ties
 have e2:=he.nodes
 have e3:=he.values
 have hel:=Ah hok (x:=x)
 unfold kd
 have no:¬ nw s x e→some ((GState.mk 0 ([]) ([])),false)=some (cH s x e):=fun h=>by unfold cH;rw [if_neg h];rfl
 by_cases h1:e.now=x.now
 ·rw [if_pos h1,FF hx]
  simp only [obnd]
  rw [CR _ _ (by unfold Cnt;omega) (by unfold Cnt;omega)]
  simp only
  by_cases h2:e.ties∈mK s x
  ·rw [if_pos (decide_eq_true h2),ke _ (by unfold Cnt;omega)]
   simp only
   obtain ⟨a1,a2,a3⟩:=pz hok h2
   have hm:=sW (vJ hx a1 a3)
   by_cases h3:bl e.values=true
   ·rw [if_pos h3,In hx (by omega) (by omega) a3]
    simp only
    rw [CX hs hm]
    simp only
    have hdl:=CY hm.right (endX s x e.ties)
    rw [CR _ _ (by unfold Cnt;omega) (by unfold Cnt;omega)]
    simp only
    by_cases h4:e.nodes∈decL s (endX s x e.ties)
    ·rw [if_pos (decide_eq_true h4)]
     obtain ⟨b1,b2,b3⟩:=oe hm.right h4
     rw [FJ hm b1 b2 b3]
     simp only
     have hl3:=EA h3 e3
     have key:aq (gX e.values ((e.values.length:Nat):Int) (decX (endX s x e.ties) e.nodes).now (decX (endX s x e.ties) e.nodes).times (decX (endX s x e.ties) e.nodes).values (aQ s e.nodes)) (((0:Nat):Int),(e.values.take 0).map pr,(e.values.take 0).map sgn)=some (e.values.map pr,e.values.map sgn):=by
      refine aK e.values.length (fun i=>((i:Int),(e.values.take i).map pr,(e.values.take i).map sgn)) ?_ ?_
      ·intro i hi
       obtain ⟨v1,v2,v3,v4,v5⟩:=ry h3 (List.getElem_mem hi)
       obtain ⟨_,_,_,w4⟩:=Db v1 v2 v3
       unfold gX
       simp only
       rw [if_pos (by omega),aC hi]
       simp only [obnd]
       rw [og]
       simp only
       rw [ar (by rw [List.length_map,List.length_take];omega),ar (by rw [List.length_map,List.length_take];omega),ar (by omega),ar (by rw [List.length_map,List.length_take];omega),ar (by rw [List.length_map,List.length_take];omega),wr (x:=(i:Int)+1) (by omega) (by omega),w4,List.take_succ_eq_append_getElem hi,List.map_append,List.map_append];rfl
      ·unfold gX
       simp only
       rw [if_neg (by omega),List.take_length]
     simp only [List.take_zero,List.map_nil,Int.natCast_zero] at key
     rw [key]
     simp only
     rw [om _ _ (by unfold Cnt;rw [List.length_map];omega)]
     simp only
     by_cases h5:e.values.map pr=aQ s e.nodes
     ·rw [if_pos (decide_eq_true h5)]
      have hnow:=hm.now
      have hh:=hm.right.hor
      have hpl:=Ai s e.nodes
      have hn:0≤(decX (endX s x e.ties) e.nodes).now∧(decX (endX s x e.ties) e.nodes).now≤1000:=by
       show 0≤(endX s x e.ties).now∧(endX s x e.ties).now≤1000
       omega
      have hobs:=(vm (decX (endX s x e.ties) e.nodes) (aQ s e.nodes) (e.values.map sgn) hn (by show (aZ _ _ _ (aZ _ _ _ _)).length≤_;rw [cT,cT];omega) hv3 (fun p hp=>⟨(hM hp).1,(hM hp).2.1⟩) (by rw [← h5,List.length_map,List.length_map]) (by omega)).1
      rw [hobs]
      simp only
      unfold cH
      rw [if_pos ⟨h1,h2,h3,h4,h5⟩]
     ·rw [if_neg (by rw [decide_eq_false h5];simp)]
      exact no (fun h=>h5 h.2.2.2.2)
    ·rw [if_neg (by rw [decide_eq_false h4];simp)]
     exact no (fun h=>h4 h.2.2.2.1)
   ·rw [if_neg h3]
    exact no (fun h=>h3 h.2.2.1)
  ·rw [if_neg (by rw [decide_eq_false h2];simp)]
   exact no (fun h=>h2 h.2.1)
 ·rw [if_neg h1]
  exact no (fun h=>h1 h.1)
theorem FL {s:GShow}{x:GState}{e:GEntry}(hs:bN s)(hx:aI s x=true)(he:FitE e):gR s x e=some (cH s x e):=by
 obtain ⟨hok,hv3,ht7⟩:=kY hx
 have e1:=he.ties
 have e2:=he.nodes
 have e3:=he.values
 have hel:=Ah hok (x:=x)
 unfold gR gz
 have no:¬ nw s x e→some ((GState.mk 0 ([]) ([])),false)=some (cH s x e):=fun h=>by unfold cH;rw [if_neg h];rfl
 rw [CQ hs hx (by omega) (by omega)]
 simp only [obnd]
 rw [CS _ _ (by unfold Cnt;omega) (fun y hy=>by obtain ⟨_,h2,_⟩:=pz hok hy;unfold Cnt;omega)]
 simp only
 by_cases h2:e.ties∈mK s x
 ·rw [if_pos (decide_eq_true h2)]
  obtain ⟨a1,a2,a3⟩:=pz hok h2
  have hm:=sW (vJ hx a1 a3)
  rw [GY hx (by omega) (by omega) a3]
  simp only [if_true]
  by_cases h1:e.now=x.now
  ·rw [if_pos h1,mM _ (by unfold Cnt;omega)]
   simp only
   by_cases h3:bl e.values=true
   ·rw [if_pos h3]
    unfold fK
    rw [zi hs hm]
    simp only [obnd]
    have hdl:=CY hm.right (endX s x e.ties)
    rw [CS _ _ (by unfold Cnt;omega) (fun y hy=>by obtain ⟨_,h2,_⟩:=oe hm.right hy;unfold Cnt;omega)]
    simp only
    by_cases h4:e.nodes∈decL s (endX s x e.ties)
    ·rw [if_pos (decide_eq_true h4)]
     obtain ⟨b1,b2,b3⟩:=oe hm.right h4
     rw [CZ hs hm b2 b3]
     simp only [if_true]
     have hl3:=EA h3 e3
     have hpl:=Ai s e.nodes
     by_cases h6:((aQ s e.nodes).length:Int)=(e.values.length:Int)
     ·rw [if_pos h6]
      have key:aq (dh (((aQ s e.nodes).length:Nat):Int) e.now e.ties e.nodes e.values (decX (endX s x e.ties) e.nodes).now (decX (endX s x e.ties) e.nodes).times (decX (endX s x e.ties) e.nodes).values (aQ s e.nodes)) (((0:Nat):Int),(e.values.take 0).map sgn)=some (if ∀ i,i<e.values.length→decide (pr (e.values.getD i 0)=(aQ s e.nodes).getD i 0)=true then .inl (e.values.map sgn) else .inr ((GState.mk 0 ([]) ([])),false)):=by
       refine bY e.values.length (fun i=>((i:Int),(e.values.take i).map sgn)) (fun i=>decide (pr (e.values.getD i 0)=(aQ s e.nodes).getD i 0)) ?_ ?_ ?_
       ·intro i hi hp
        rw [decide_eq_true_eq] at hp
        obtain ⟨v1,v2,v3,v4,v5⟩:=ry h3 (List.getElem_mem hi)
        obtain ⟨w1,w2,w3,w4⟩:=Db v1 v2 v3
        have ed:e.values.getD i 0=e.values[i]:=by rw [List.getD_eq_getElem?_getD,List.getElem?_eq_getElem hi];rfl
        rw [ed] at hp
        unfold dh
        simp only
        rw [if_pos (by omega),bk (show i<(aQ s e.nodes).length by omega),aC hi]
        simp only [obnd]
        rw [← hp,ar (by rw [List.length_map,List.length_take];omega),ar (by rw [List.length_map,List.length_take];omega),wr (x:=(i:Int)+1) (by omega) (by omega),wr (x:=0 - pr e.values[i]) (by omega) (by omega),List.take_succ_eq_append_getElem hi,List.map_append]
        by_cases hneg:e.values[i]<0
        ·have:=w2 hneg
         rw [if_pos (by omega)]
         have es:sgn e.values[i]=-1:=by unfold sgn;rw [if_pos hneg]
         simp only [List.map_cons,List.map_nil,es];rfl
        ·have:=w1 (by omega)
         rw [if_neg (by omega),if_pos (by omega),ar (by rw [List.length_map,List.length_take];omega),ar (by rw [List.length_map,List.length_take];omega)]
         have es:sgn e.values[i]=1:=by unfold sgn;rw [if_neg hneg]
         simp only [List.map_cons,List.map_nil,es];rfl
       ·intro i hi hp
        rw [decide_eq_false_iff_not] at hp
        obtain ⟨v1,v2,v3,v4,v5⟩:=ry h3 (List.getElem_mem hi)
        obtain ⟨w1,w2,w3,w4⟩:=Db v1 v2 v3
        have ed:e.values.getD i 0=e.values[i]:=by rw [List.getD_eq_getElem?_getD,List.getElem?_eq_getElem hi];rfl
        rw [ed] at hp
        have hpm:=hM (s:=s) (nodes:=e.nodes) (p:=(aQ s e.nodes).getD i 0) (by rw [List.getD_eq_getElem?_getD,List.getElem?_eq_getElem (show i<(aQ s e.nodes).length by omega)];exact List.getElem_mem _)
        unfold dh
        simp only
        rw [if_pos (by omega),bk (show i<(aQ s e.nodes).length by omega),aC hi]
        simp only [obnd]
        rw [wr (x:=0 - (aQ s e.nodes).getD i 0) (by omega) (by omega)]
        by_cases hneg:e.values[i]<0
        ·have:=w2 hneg
         rw [if_neg (by omega),if_neg (by omega)]
        ·have:=w1 (by omega)
         rw [if_neg (by omega),if_neg (by omega)]
       ·unfold dh
        simp only
        rw [if_neg (by omega),List.take_length]
      simp only [List.take_zero,List.map_nil,Int.natCast_zero] at key
      rw [key]
      have heq:(∀ i,i<e.values.length→decide (pr (e.values.getD i 0)=(aQ s e.nodes).getD i 0)=true)↔e.values.map pr=aQ s e.nodes:=by
       constructor
       ·intro h
        refine List.ext_getElem (by rw [List.length_map];omega) ?_
        intro i hi1 hi2
        rw [List.length_map] at hi1
        have:=h i hi1
        rw [decide_eq_true_eq,List.getD_eq_getElem?_getD,List.getElem?_eq_getElem hi1,List.getD_eq_getElem?_getD,List.getElem?_eq_getElem hi2] at this
        simpa using this
       ·intro h i hi
        rw [decide_eq_true_eq,← h,List.getD_eq_getElem?_getD,List.getD_eq_getElem?_getD,List.getElem?_map,List.getElem?_eq_getElem hi];rfl
      by_cases h5:e.values.map pr=aQ s e.nodes
      ·rw [if_pos (heq.2 h5)]
       simp only
       have hnow:=hm.now
       have hh:=hm.right.hor
       have hn:0≤(decX (endX s x e.ties) e.nodes).now∧(decX (endX s x e.ties) e.nodes).now≤1000:=by
        show 0≤(endX s x e.ties).now∧(endX s x e.ties).now≤1000
        omega
       have hobs:=(vm (decX (endX s x e.ties) e.nodes) (aQ s e.nodes) (e.values.map sgn) hn (by show (aZ _ _ _ (aZ _ _ _ _)).length≤_;rw [cT,cT];omega) hv3 (fun p hp=>⟨(hM hp).1,(hM hp).2.1⟩) (by rw [← h5,List.length_map,List.length_map]) (by omega)).2
       rw [hobs]
       simp only
       unfold cH
       rw [if_pos ⟨h1,h2,h3,h4,h5⟩]
      ·rw [if_neg (fun h=>h5 (heq.1 h))]
       exact no (fun h=>h5 h.2.2.2.2)
     ·rw [if_neg h6]
      exact no (fun h=>h6 (by rw [← h.2.2.2.2,List.length_map]))
    ·rw [if_neg (by rw [decide_eq_false h4];simp)]
     simp only
     rw [if_neg (by simp)]
     exact no (fun h=>h4 h.2.2.2.1)
   ·rw [if_neg h3]
    exact no (fun h=>h3 h.2.2.1)
  ·rw [if_neg h1]
   exact no (fun h=>h1 h.1)
 ·rw [if_neg (by rw [decide_eq_false h2];simp)]
  simp only
  rw [if_neg (by simp)]
  exact no (fun h=>h2 h.2.1)
theorem zk {s:GShow}{x:GState}{e:GEntry}(hx:aI s x=true)(h:(cH s x e).2=true):aI s (cH s x e).1=true:=by
 obtain ⟨hok,hv3,ht7⟩:=kY hx
 unfold cH at h ⊢
 by_cases he:nw s x e
 ·rw [if_pos he]
  obtain ⟨h1,h2,h3,h4,h5⟩:=he
  obtain ⟨a1,a2,a3⟩:=pz hok h2
  have hm:=sW (vJ hx a1 a3)
  obtain ⟨b1,b2,b3⟩:=oe hm.right h4
  refine Mq hm b3 (by rw [← h5,List.length_map,List.length_map]) ?_
  intro v hv
  rw [List.mem_map] at hv
  obtain ⟨y,_,rfl⟩:=hv
  unfold sgn
  split
  ·exact .inr rfl
  ·exact .inl rfl
 ·rw [if_neg he] at h;cases h
noncomputable def bb (s:GShow):GState→List GEntry→GState × Bool
 | x,[]=>(x,true)
 | x,e::r=>if (cH s x e).2=true then bb s (cH s x e).1 r else (ky,false)
noncomputable def bQ (s:GShow)(log:List GEntry):GState × Bool:=if aO s=true then bb s (dm s) log else (ky,false)
theorem Aj {s:GShow}:∀ (log:List GEntry) (x:GState),aI s x=true→(bb s x log).2=true→aI s (bb s x log).1=true
 | [],x,hx,_=>hx
 | e::r,x,hx,h=>by
  unfold bb at h ⊢
  by_cases he:(cH s x e).2=true
  ·rw [if_pos he] at h ⊢
   exact Aj r _ (zk hx he) h
  ·rw [if_neg he] at h;cases h
theorem pZ {s:GShow}:∀ (log:List GEntry) (x:GState),(bb s x log).2=false→bb s x log=(ky,false)
 | [],x,h=>by cases h
 | e::r,x,h=>by
  unfold bb at h ⊢
  by_cases he:(cH s x e).2=true
  ·rw [if_pos he] at h ⊢
   exact pZ r _ h
  ·rw [if_neg he]
theorem rz {s:GShow}(h:aO s=true):aI s (dm s)=true:=by
 have hR:=bT h
 have h1:=hR.node1
 have hh:=hR.hor
 have hl:(dm s).times.length=s.nodes.length:=qQ _
 have htm:∀ i:Nat,i<s.nodes.length→tm (dm s).times (i:Int)=if i=0 then 0 else -1:=by
  have key:∀ n i:Nat,i<n→(stL n)[i]?=some (if i=0 then 0 else -1):=by
   intro n
   induction n with
   | zero=>intro i hi;omega
   | succ n ih=>
    intro i hi
    cases n with
    | zero=>
     obtain rfl:i=0:=by omega
     rfl
    | succ n=>
     rw [CJ]
     by_cases hlt:i<n+1
     ·rw [List.getElem?_append_left (by rw [qQ];exact hlt)]
      exact ih i hlt
     ·obtain rfl:i=n+1:=by omega
      rw [List.getElem?_append_right (by rw [qQ];exact Nat.le_refl _),qQ,Nat.sub_self,if_neg (by omega)];rfl
  intro i hi
  unfold tm
  rw [Int.toNat_natCast,show (dm s).times=stL s.nodes.length from rfl,key _ i hi];rfl
 unfold aI
 simp only [Bool.and_eq_true,decide_eq_true_eq]
 refine ⟨⟨⟨⟨⟨h,?_⟩,hl⟩,?_⟩,?_⟩,?_⟩
 ·show 0≤(0:Int)∧(0:Int)≤s.horizon+1;omega
 ·show ca [0,0,0]=true;decide
 ·intro i hi
  unfold gA
  have e:=htm i (by omega)
  by_cases h0:i=0
  ·subst h0
   rw [if_pos rfl]
   rw [if_pos rfl] at e
   exact decide_eq_true e
  ·rw [if_neg h0]
   rw [if_neg h0] at e
   rw [e]
   exact decide_eq_true ⟨by omega,by show (-1:Int)≤0 - 1;omega⟩
 ·intro i hi
  unfold gy
  have ev:tm (dm s).values (i:Int)=0:=by
   unfold fF at hi
   have:i=0∨i=1∨i=2:=by omega
   rcases this with rfl | rfl | rfl <;> rfl
  rw [ev]
  by_cases hw:0≤aN s.nodes (fun n=>decide (n.watch=(i:Int)+1))
  ·obtain ⟨j,hj,e,hq,_⟩:=iV hw
   have hj0:j≠0:=by
    rintro rfl
    have hf:=h
    unfold aO hU at hf
    simp only [Bool.and_eq_true] at hf
    have hf:=hf.1.1.1.1.1.2
    unfold pd at hf
    rw [List.getElem?_eq_getElem hj] at hf
    simp only [Option.any_some,Bool.and_eq_true,decide_eq_true_eq] at hf
    have:=of_decide_eq_true hq
    omega
   rw [e,htm j hj,if_neg hj0]
   simp
  ·rw [decide_eq_false hw];simp
theorem vn {s:GShow}(log:List GEntry)(hl:log.length≤1048576)(body:(Int × Int × (List Int) × (List Int))→Option (Step (Int × Int × (List Int) × (List Int)) (Sum (Int × (List Int) × (List Int)) (GState × Bool))))
  (h1:∀ (i:Nat) (hi:i<log.length) (x:GState),aI s x=true→body ((i:Int),x.now,x.times,x.values)=(if (cH s x log[i]).2=true then some (.next (((i+1:Nat):Int),(cH s x log[i]).1.now,(cH s x log[i]).1.times,(cH s x log[i]).1.values)) else some (.done (.inr (ky,false)))))
  (h2:∀ x:GState,body ((log.length:Nat),x.now,x.times,x.values)=some (.done (.inl (x.now,x.times,x.values)))) :
  ∀ (n i:Nat),i+n=log.length→∀ x,aI s x=true→aq body ((i:Int),x.now,x.times,x.values)=some (if (bb s x (log.drop i)).2=true then .inl ((bb s x (log.drop i)).1.now,(bb s x (log.drop i)).1.times,(bb s x (log.drop i)).1.values) else .inr (ky,false)):=by
 intro n
 induction n with
 | zero=>
  intro i hi x hx
  obtain rfl:i=log.length:=by omega
  rw [aM,h2,List.drop_length]
  rfl
 | succ n ih=>
  intro i hi x hx
  have hi':i<log.length:=by omega
  rw [aM,h1 i hi' x hx,List.drop_eq_getElem_cons hi']
  by_cases he:(cH s x log[i]).2=true
  ·rw [if_pos he]
   simp only
   rw [ih (i+1) (by omega) _ (zk hx he)]
   simp only [bb,if_pos he]
  ·rw [if_neg he]
   simp only [bb,if_neg he]
   rfl
theorem zl (s:GShow)(log:List GEntry)(hf:FitS s)(hl:log.length≤1048576)(he:∀ e,e∈log→FitE e):gv s log=some (bQ s log):=by
 have hs:=hf.small
 unfold gv bQ
 rw [qj s hs]
 simp only [obnd]
 by_cases hok:aO s=true
 ·rw [if_pos hok,if_pos hok,xI s hs hok]
  simp only
  have hst:=rz hok
  have key:=vn (s:=s) log hl (ea log ((log.length:Nat):Int) s.nodes s.ties s.horizon) ?_ ?_ log.length 0 (by omega) (dm s) hst
  ·rw [List.drop_zero] at key
   rw [show (0:Int)=((0:Nat):Int) from rfl,key]
   cases h2:(bb s (dm s) log).2
   ·rw [if_neg (by simp)]
    simp only
    rw [pZ _ _ h2]
   ·rw [if_pos rfl]
    simp only
    generalize hr:bb s (dm s) log=q at h2
    obtain ⟨y,b⟩:=q
    simp only at h2
    subst h2
    rfl
  ·intro i hi x hx
   unfold ea
   simp only
   rw [if_pos (by omega),aC hi,wr (x:=(i:Int)+1) (by omega) (by omega)]
   simp only [obnd]
   rw [show (GShow.mk s.nodes s.ties s.horizon)=s from rfl,show (GState.mk x.now x.times x.values)=x from rfl,FK hs hx (he _ (List.getElem_mem hi))]
   rfl
  ·intro x
   unfold ea
   simp only
   rw [if_neg (by omega)]
 ·rw [if_neg hok,if_neg hok];rfl
theorem Dc (s:GShow)(log:List GEntry)(hf:FitS s)(hl:log.length≤1048576)(he:∀ e,e∈log→FitE e)(hok:aO s=true):gk s log=some (bQ s log):=by
 have hs:=hf.small
 unfold gk bQ
 rw [xJ s hs hok]
 simp only [obnd]
 have hst:=rz hok
 have key:=vn (s:=s) log hl (dV log ((log.length:Nat):Int) s.nodes s.ties s.horizon) ?_ ?_ log.length 0 (by omega) (dm s) hst
 ·rw [List.drop_zero] at key
  rw [show (0:Int)=((0:Nat):Int) from rfl,key,if_pos hok]
  cases h2:(bb s (dm s) log).2
  ·rw [if_neg (by simp)]
   simp only
   rw [pZ _ _ h2]
  ·rw [if_pos rfl]
   simp only
   rw [nM s hs,hok]
   simp only
   generalize hr:bb s (dm s) log=q at h2
   obtain ⟨y,b⟩:=q
   simp only at h2
   subst h2
   rfl
 ·intro i hi x hx
  unfold dV
  simp only
  rw [if_pos (by omega),aC hi,wr (x:=(i:Int)+1) (by omega) (by omega)]
  simp only [obnd]
  rw [show (GShow.mk s.nodes s.ties s.horizon)=s from rfl,show (GState.mk x.now x.times x.values)=x from rfl,FL hs hx (he _ (List.getElem_mem hi))]
  rfl
 ·intro x
  unfold dV
  simp only
  rw [if_neg (by omega)]
end Go.Proofs.Qc
set_option maxRecDepth 100000
namespace Go.Proofs.Qc
open Go
theorem Dd {s:GShow}(log:List GEntry):((bQ s log).2=true∧aI s (bQ s log).1=true)∨bQ s log=(ky,false):=by
 unfold bQ
 by_cases h:aO s=true
 ·rw [if_pos h]
  cases h2:(bb s (dm s) log).2
  ·exact .inr (pZ _ _ h2)
  ·exact .inl ⟨rfl,Aj _ _ (rz h) h2⟩
 ·rw [if_neg h];exact .inr rfl
theorem xQ (s:GShow)(log:List GEntry):FitX (bQ s log).1:=by
 rcases Dd (s:=s) log with ⟨_,h⟩ | h
 ·obtain ⟨_,h2,h3⟩:=kY h
  exact ⟨by omega,by omega⟩
 ·rw [h];exact ⟨by simp [ky],by simp [ky]⟩
noncomputable def mL (d:GDesk):Bool:=aI d.show_ d.state&&decide ((d.log.length:Int)=d.state.now)&&(bQ d.show_ d.log).2&&decide ((bQ d.show_ d.log).1=d.state)
theorem DW (d:GDesk)(h:FitD d):dN d=some (mL d):=by
 have x1:=h.st.times
 have x2:=h.st.values
 unfold dN mL
 rw [CG _ _ h.sh.small x1 x2]
 simp only [obnd]
 cases aI d.show_ d.state
 ·rfl
 ·rw [if_pos rfl]
  by_cases hn:(d.log.length:Int)=d.state.now
  ·rw [if_pos hn,zl _ _ h.sh h.log h.entry,decide_eq_true hn]
   simp only
   cases hr:(bQ d.show_ d.log).2
   ·rfl
   ·rw [if_pos rfl,xG _ _ (xQ _ _)];rfl
  ·rw [if_neg hn,decide_eq_false hn];rfl
theorem DX (d:GDesk)(h:FitD d):jB d=some (mL d):=by
 have x1:=h.st.times
 have x2:=h.st.values
 unfold jB mL
 rw [px _ _ h.sh.small x1 x2]
 simp only [obnd]
 cases hst:aI d.show_ d.state
 ·rfl
 ·have hok:=(kY hst).1
  rw [if_pos rfl]
  by_cases hn:(d.log.length:Int)=d.state.now
  ·rw [if_pos hn,Dc _ _ h.sh h.log h.entry hok,decide_eq_true hn]
   simp only
   cases hr:(bQ d.show_ d.log).2
   ·rfl
   ·rw [if_pos rfl,xH _ _ (xQ _ _)];rfl
  ·rw [if_neg hn,decide_eq_false hn];rfl
end Go.Proofs.Qc
set_option maxRecDepth 100000
namespace Go.Proofs.Qc
open Go
end Go.Proofs.Qc
set_option maxRecDepth 100000
namespace Go.Proofs.Qc
open Go
theorem wr8 {x:Int}(h1:0≤x)(h2:x≤255):IntKind.wrap .u8 x=x:=by
 unfold IntKind.wrap
 simp [IntKind.bits,IntKind.signed]
 omega
theorem FM (ns:List Int):(eC ns).data.toList=ns.map (fun n=>UInt8.ofNat n.toNat):=by
 unfold eC
 have key:∀ (ns:List Int) (a:ByteArray),(ns.foldl (fun r n=>r.push (UInt8.ofNat n.toNat)) a).data.toList=a.data.toList++ns.map (fun n=>UInt8.ofNat n.toNat):=by
  intro ns
  induction ns with
  | nil=>intro a;simp
  | cons n ns ih=>
   intro a
   simp only [List.foldl_cons,ih,List.map_cons]
   simp [ByteArray.push]
 rw [key]
 rfl
end Go.Proofs.Qc
set_option maxRecDepth 100000
namespace Go.Proofs.Qc
open Go
end Go.Proofs.Qc
set_option maxRecDepth 100000
namespace Go.Proofs.Qc
open Go
end Go.Proofs.Qc
