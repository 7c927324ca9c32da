/- Sort,Concat,members: what they come to. Own work. -/
import Derived.Test.YtghfphjfkdbpjaaGreatAP24
set_option linter.all false
set_option maxRecDepth 100000
namespace Go.Proofs.QA
open Go
def Asc (l:List Int):Prop:=l.Pairwise (fun a b=>a<b)
theorem Bl:∀ {a b:List Int},Asc a→Asc b→(∀ x,x∈a↔x∈b)→a=b
 | [],[],_,_,_=>rfl
 | [],y::b,_,_,h=>absurd ((h y).2 (by simp)) (by simp)
 | x::a,[],_,_,h=>absurd ((h x).1 (by simp)) (by simp)
 | x::a,y::b,ha,hb,h=>by
  have ha':=List.pairwise_cons.1 ha
  have hb':=List.pairwise_cons.1 hb
  have hxy:x=y:=by
   have h1:=(h x).1 (by simp)
   have h2:=(h y).2 (by simp)
   rcases List.mem_cons.1 h1 with h1 | h1
   ·exact h1
   ·rcases List.mem_cons.1 h2 with h2 | h2
    ·exact h2.symm
    ·have:=hb'.1 x h1
     have:=ha'.1 y h2
     omega
  subst hxy
  rw [Bl ha'.2 hb'.2 ?_]
  intro z
  have:=h z
  simp only [List.mem_cons] at this
  constructor
  ·intro hz
   rcases this.1 (.inr hz) with h1 | h1
   ·have:=ha'.1 z hz;omega
   ·exact h1
  ·intro hz
   rcases this.2 (.inr hz) with h1 | h1
   ·have:=hb'.1 z hz;omega
   ·exact h1
theorem vE {l:List Int}{x:Int}(h:Asc l)(hx:∀ y,y∈l→y<x):Asc (l++[x]):=by
 unfold Asc
 rw [List.pairwise_append]
 exact ⟨h,List.pairwise_singleton _ _,fun a ha b hb=>by rw [List.mem_singleton.1 hb];exact hx a ha⟩
theorem BR {l:List Int}(h:l.Pairwise (fun a b=>a≤b))(hn:l.Nodup):Asc l:=by
 unfold Asc List.Nodup at *
 have:=h.and hn
 refine this.imp ?_
 intro a b hab
 have:=hab.1
 have:=hab.2
 omega
theorem Asc.nodup {l:List Int}(h:Asc l):l.Nodup:=by
 unfold List.Nodup
 exact h.imp (fun hab=>by omega)
theorem un {α:Type}[DecidableEq α]:∀ {l r:List α},l.Nodup→(∀ x,x∈l→x∈r)→l.length≤r.length
 | [],_,_,_=>by simp
 | x::l,r,hn,h=>by
  have hn':=List.nodup_cons.1 hn
  have hx:=h x (by simp)
  have:=un (l:=l) (r:=r.erase x) hn'.2 (fun y hy=>by
   rw [List.mem_erase_of_ne (by intro e;subst e;exact hn'.1 hy)]
   exact h y (by simp [hy]))
  rw [List.length_erase_of_mem hx] at this
  have:0<r.length:=List.length_pos_of_mem hx
  simp only [List.length_cons]
  omega
theorem Bm {α:Type}(A:List α)(b:α)(C:List α):getI (A++b::C) ((A.length:Nat):Int)=some b:=by
 rw [aB (by simp)]
 simp
theorem Is {α:Type}(A:List α)(b z:α)(C:List α):(A++b::C).set A.length z=A++z::C:=by
 rw [List.set_append_right _ _ (Nat.le_refl _),Nat.sub_self];rfl
theorem FP (x y:Int):jw x y=some (decide (x<y)):=by
 unfold jw iI
 simp [obnd]
theorem Ha (b i x:Int):∀ (n:Nat) (P:List Int),P.length=n→n≤1000→∀ Q:List Int,∃ P1 P2,P=P1++P2∧(∀ y,y∈P2→x<y)∧(∀ A y,P1=A++[y]→y≤x) ∧
  aq (aL 0 b i) (((P.length:Nat):Int),P++x::Q)=some (P1++x::P2++Q):=by
 intro n
 induction n with
 | zero=>
  intro P hP _ Q
  obtain rfl:=List.length_eq_zero_iff.1 hP
  refine ⟨[],[],rfl,by simp,fun A y h=>by simp at h,?_⟩
  rw [aQ]
  unfold aL
  simp
 | succ n ih=>
  intro P hP hn Q
  rcases List.eq_nil_or_concat P with rfl | ⟨A,y,rfl⟩
  ·simp at hP
  rw [List.concat_eq_append] at *
  have hA:A.length=n:=by simpa using hP
  rw [aQ]
  have e1:getI (A++[y]++x::Q) (((A++[y]).length:Nat):Int)=some x:=Bm _ _ _
  have e2:(((A++[y]).length:Nat):Int) - 1=((A.length:Nat):Int):=by simp
  have e3:getI (A++[y]++x::Q) ((A.length:Nat):Int)=some y:=by
   rw [List.append_assoc];exact Bm _ _ _
  have e4:(A++[y]++x::Q).set (A++[y]).length y=A++y::(y::Q):=by
   rw [Is];simp
  by_cases hxy:x<y
  ·obtain ⟨P1,P2,h1,h2,h3,h4⟩:=ih A hA (by omega) (y::Q)
   refine ⟨P1,P2++[y],by rw [h1];simp,?_,h3,?_⟩
   ·intro z hz
    rcases List.mem_append.1 hz with hz | hz
    ·exact h2 z hz
    ·rw [List.mem_singleton.1 hz];exact hxy
   ·have step:aL 0 b i (((A++[y]).length:Nat),A++[y]++x::Q)=some (.next (((A.length:Nat):Int),A++x::(y::Q))):=by
     unfold aL
     simp only
     rw [if_pos (by rw [List.length_append,List.length_singleton];omega),e1]
     simp only [obnd]
     rw [wr (x:=(((A++[y]).length:Nat):Int) - 1) (by rw [List.length_append,List.length_singleton];omega) (by rw [List.length_append,List.length_singleton];omega),e2,e3]
     simp only
     rw [FP]
     simp only
     rw [if_pos (decide_eq_true hxy),Int.toNat_natCast,e4,Bm]
     simp only
     rw [Int.toNat_natCast,Is]
    rw [step]
    simp only
    rw [h4]
    simp
  ·refine ⟨A++[y],[],by simp,by simp,?_,?_⟩
   ·intro B z hz
    have:=List.append_inj_right' hz rfl
    simp at this
    omega
   ·have step:aL 0 b i (((A++[y]).length:Nat),A++[y]++x::Q)=some (.done (A++[y]++x::Q)):=by
     unfold aL
     simp only
     rw [if_pos (by rw [List.length_append,List.length_singleton];omega),e1]
     simp only [obnd]
     rw [wr (x:=(((A++[y]).length:Nat):Int) - 1) (by rw [List.length_append,List.length_singleton];omega) (by rw [List.length_append,List.length_singleton];omega),e2,e3]
     simp only
     rw [FP]
     simp only
     rw [if_neg (by rw [decide_eq_false hxy];simp)]
    rw [step]
    simp
theorem Et (l:List Int)(h:l.length≤12):∃ r,bv l 0 ((l.length:Nat):Int)=some r∧r.Perm l∧r.Pairwise (fun a b=>a≤b):=by
 unfold bv
 have key:∃ r,aq (aY 0 ((l.length:Nat):Int)) (1,l)=some r∧(r.Perm l∧r.Pairwise (fun a b=>a≤b)):=by
  by_cases h0:l.length=0
  ·obtain rfl:=List.length_eq_zero_iff.1 h0
   refine ⟨[],?_,List.Perm.refl _,List.Pairwise.nil⟩
   rw [aQ]
   unfold aY
   simp
  refine bL (l.length - 1) (fun i st=>st.1=(i:Int)+1∧st.2.Perm l∧(st.2.take (i+1)).Pairwise (fun a b=>a≤b)) _ ⟨rfl,List.Perm.refl _,?_⟩ ?_ ?_
  ·cases l with
   | nil=>simp
   | cons x l=>simp
  ·rintro i ⟨j,L⟩ hi ⟨hj,hp,hs⟩
   simp only at hj hp hs
   subst hj
   have hL:=hp.length_eq
   have hd:L.drop (i+1)=L[i+1]'(by omega)::L.drop (i+2):=List.drop_eq_getElem_cons (by omega)
   have hsplit:L=L.take (i+1)++L[i+1]'(by omega)::L.drop (i+2):=by rw [← hd,List.take_append_drop]
   generalize hx:L[i+1]'(by omega)=x at hd hsplit
   generalize hA:L.take (i+1)=A at hs hsplit
   generalize hC:L.drop (i+2)=C at hsplit
   have hAl:A.length=i+1:=by rw [← hA,List.length_take];omega
   obtain ⟨P1,P2,h1,h2,h3,h4⟩:=Ha ((l.length:Nat):Int) ((i:Int)+1) x A.length A rfl (by omega) C
   left
   refine ⟨((i:Int)+1+1,P1++x::P2++C),?_,?_,?_,?_⟩
   ·unfold aY
    simp only
    rw [if_pos (by omega),hsplit,show (i:Int)+1=((A.length:Nat):Int) by omega] at *
    rw [h4]
    simp only [obnd]
    rw [wr (by omega) (by omega)]
   ·simp only;omega
   ·refine List.Perm.trans ?_ hp
    rw [hsplit,h1]
    simp only [List.append_assoc,List.cons_append]
    refine List.Perm.append_left P1 ?_
    exact (List.perm_middle (a:=x) (l₁:=P2) (l₂:=C)).symm
   ·simp only
    have hlen:(P1++x::P2).length=i+1+1:=by
     rw [h1] at hAl
     simp at hAl ⊢
     omega
    rw [← hlen,List.take_left]
    rw [h1] at hs
    obtain ⟨s1,s2,s3⟩:=List.pairwise_append.1 hs
    rw [List.pairwise_append]
    refine ⟨s1,List.pairwise_cons.2 ⟨fun y hy=>Int.le_of_lt (h2 y hy),s2⟩,?_⟩
    intro a ha b hb
    have hax:a≤x:=by
     rcases List.eq_nil_or_concat P1 with rfl | ⟨B,y,rfl⟩
     ·simp at ha
     ·rw [List.concat_eq_append] at *
      have hy:=h3 B y rfl
      rcases List.mem_append.1 ha with ha | ha
      ·have:=(List.pairwise_append.1 s1).2.2 a ha y (by simp)
       omega
      ·rw [List.mem_singleton.1 ha];exact hy
    rcases List.mem_cons.1 hb with rfl | hb
    ·exact hax
    ·have:=h2 b hb;omega
  ·rintro ⟨j,L⟩ ⟨hj,hp,hs⟩
   simp only at hj hp hs
   subst hj
   have hL:=hp.length_eq
   unfold aY
   simp only
   rw [if_neg (by omega)]
   refine ⟨_,rfl,hp,?_⟩
   rw [List.take_of_length_le (by omega)] at hs
   exact hs
 obtain ⟨r,e,hr⟩:=key
 rw [show IntKind.wrap .i64 (0+1)=1 from wr (by omega) (by omega),e]
 exact ⟨r,rfl,hr⟩
theorem Eu:∀ n:Nat,n<13→(sJ (IntKind.wrap .u64 (n:Int))).isSome=true:=by decide +kernel
theorem FQ (l:List Int)(h:l.length≤12):∃ r,bM l=some r∧r.Perm l∧r.Pairwise (fun a b=>a≤b):=by
 unfold bM
 obtain ⟨b,hb⟩:=Option.isSome_iff_exists.1 (Eu l.length (by omega))
 rw [hb]
 simp only [obnd]
 obtain ⟨r,e,hr⟩:=Et l h
 have:bU l 0 ((l.length:Nat):Int) b=some r:=by
  unfold bU
  rw [aQ]
  unfold dQ
  rw [wr (by omega) (by omega),if_pos (by omega),e]
  rfl
 rw [this]
 exact ⟨r,rfl,hr⟩
theorem KN (n:Nat)(h:n≤1048576):gl (n:Int)=some (List.replicate n 0,0):=by
 unfold gl
 rw [if_neg (by omega),wr (x:=(0:Int) - 0) (by omega) (by omega),wr (x:=(n:Int) - (0 - 0)) (by omega) (by omega)]
 by_cases h0:0<n
 ·rw [if_pos (by omega),au (by omega),au (by omega),au (by omega),show ((n:Int) - (0 - 0)).toNat=n by omega]
 ·obtain rfl:n=0:=by omega
  rw [if_neg (by omega)];rfl
theorem BS (xs:List (List Int))(i:Nat)(hi:i<xs.length):(xs.take (i+1)).flatten=(xs.take i).flatten++xs[i]:=by
 rw [List.take_succ_eq_append_getElem hi,List.flatten_append]
 simp
theorem FR (xs:List (List Int))(i:Nat):(xs.take i).flatten.length≤xs.flatten.length:=by
 have:xs.flatten=(xs.take i).flatten++(xs.drop i).flatten:=by rw [← List.flatten_append,List.take_append_drop]
 rw [this,List.length_append];omega
theorem It (xs:List (List Int))(h:xs.length≤1048576)(hf:xs.flatten.length≤1048576):eN xs=some xs.flatten:=by
 unfold eN
 have k1:aq (df xs ((xs.length:Nat):Int)) ((((xs.take 0).flatten.length:Nat):Int),((0:Nat):Int))=some ((xs.flatten.length:Nat):Int):=by
  refine aV xs.length (fun i=>((((xs.take i).flatten.length:Nat):Int),(i:Int))) ?_ ?_
  ·intro i hi
   have e:=BS xs i hi
   have l1:=FR xs (i+1)
   have e':=congrArg List.length e
   rw [List.length_append] at e'
   unfold df
   simp only
   rw [if_pos (by omega),aB hi]
   simp only [obnd]
   rw [wr (x:=(((xs.take i).flatten.length:Nat):Int)+((xs[i].length:Nat):Int)) (by omega) (by omega),if_neg (by omega),wr (x:=(i:Int)+1) (by omega) (by omega)]
   congr 3
   omega
  ·unfold df
   simp only
   rw [if_neg (by omega),List.take_length]
 simp only [List.take_zero,List.flatten_nil,List.length_nil,Int.natCast_zero] at k1
 rw [k1]
 simp only [obnd]
 rw [KN _ hf]
 simp only
 have k2:∃ q,aq (dg xs ((xs.length:Nat):Int)) (0,0,List.replicate xs.flatten.length 0)=some q∧(q.1≤q.2.length∧q.2.length≤xs.flatten.length∧q.2.take q.1=xs.flatten):=by
  refine bL xs.length (fun i st=>st.1=(xs.take i).flatten.length∧st.2.1=(i:Int)∧st.1≤st.2.2.length∧st.2.2.length≤xs.flatten.length∧st.2.2.take st.1=(xs.take i).flatten) _ ⟨by simp,rfl,by simp,by simp,by simp⟩ ?_ ?_
  ·rintro i ⟨n,j,L⟩ hi ⟨hn,hj,hl,hz,ht⟩
   simp only at hn hj hl hz ht
   subst hj
   have e:=BS xs i hi
   have l1:=FR xs (i+1)
   have e':=congrArg List.length e
   rw [List.length_append] at e'
   unfold dg
   simp only
   rw [if_pos (by omega),aB hi,wr (x:=(i:Int)+1) (by omega) (by omega)]
   simp only [obnd]
   left
   by_cases h1:n=L.length
   ·rw [if_pos h1,au (by omega),au (by omega)]
    refine ⟨_,rfl,by omega,rfl,by simp;omega,by simp only [List.length_append];omega,?_⟩
    rw [h1,List.take_length] at ht
    rw [List.take_of_length_le (by simp;omega),ht,e]
   ·rw [if_neg h1,au (by omega)]
    by_cases h2:xs[i].length=0
    ·rw [if_pos h2]
     have h3:=List.length_eq_zero_iff.1 h2
     refine ⟨_,rfl,by omega,rfl,hl,hz,?_⟩
     rw [e,h3,List.append_nil];exact ht
    ·rw [if_neg h2,au (by omega),au (by omega)]
     refine ⟨_,rfl,by omega,rfl,by simp;omega,by simp only [List.length_append,List.length_take];omega,?_⟩
     rw [ht,e,List.take_of_length_le (by rw [List.length_append];omega)]
  ·rintro ⟨n,j,L⟩ ⟨hn,hj,hl,hz,ht⟩
   simp only at hn hj hl hz ht
   subst hj
   unfold dg
   simp only
   rw [if_neg (by omega)]
   rw [List.take_length] at ht
   exact ⟨_,rfl,hl,hz,ht⟩
 obtain ⟨q,e,hl,hz,hq⟩:=k2
 have hq':=congrArg List.length hq
 rw [List.length_take] at hq'
 rw [e]
 simp only
 rw [au hl,au (by omega),hq]
def eG (set:Int)(i:Nat):Bool:=decide ((IntKind.wrap .i64 (((BitVec.ofInt (IntKind.bits .i64) (Int.fdiv set (2^(min i 64))) &&& BitVec.ofInt (IntKind.bits .i64) 1).toNat:Nat):Int))=1)
def sel (p:Nat→Bool)(l:List Int)(n:Nat):List Int:=((List.range n).filter p).map (fun j=>l.getD j 0)
theorem FS {p:Nat→Bool}{l:List Int}{n:Nat}(h:p n=true):sel p l (n+1)=sel p l n++[l.getD n 0]:=by
 unfold sel
 rw [List.range_succ,List.filter_append,List.map_append]
 simp [h]
theorem Iu {p:Nat→Bool}{l:List Int}{n:Nat}(h:p n=false):sel p l (n+1)=sel p l n:=by
 unfold sel
 rw [List.range_succ,List.filter_append,List.map_append]
 simp [h]
theorem xv (p:Nat→Bool)(l:List Int)(n:Nat):(sel p l n).length≤n:=by
 unfold sel
 rw [List.length_map]
 have:=List.length_filter_le p (List.range n)
 simpa using this
theorem FT {p:Nat→Bool}{l:List Int}{n:Nat}{x:Int}(h:x∈sel p l n):∃ i,i<n∧p i=true∧x=l.getD i 0:=by
 unfold sel at h
 simp only [List.mem_map,List.mem_filter,List.mem_range] at h
 obtain ⟨i,⟨h1,h2⟩,rfl⟩:=h
 exact ⟨i,h1,h2,rfl⟩
theorem Ev {p:Nat→Bool}{l:List Int}{x:Int}(h:x∈sel p l l.length):x∈l:=by
 obtain ⟨i,hi,_,rfl⟩:=FT h
 rw [List.getD_eq_getElem?_getD,List.getElem?_eq_getElem hi]
 exact List.getElem_mem hi
theorem Bn {p:Nat→Bool}{l:List Int}(h:Asc l):∀ n,n≤l.length→Asc (sel p l n)
 | 0,_=>List.Pairwise.nil
 | n+1,hn=>by
  have ih:=Bn (p:=p) h n (by omega)
  cases hp:p n
  ·rw [Iu hp];exact ih
  ·rw [FS hp]
   refine vE ih ?_
   intro y hy
   obtain ⟨i,hi,_,rfl⟩:=FT hy
   rw [List.getD_eq_getElem?_getD,List.getElem?_eq_getElem (by omega),List.getD_eq_getElem?_getD,List.getElem?_eq_getElem (by omega)]
   exact List.pairwise_iff_getElem.1 h i n (by omega) (by omega) hi
theorem Ak (l:List Int)(n:Int)(h:l.length≤1000):gN l n=some (sel (eG n) l l.length):=by
 unfold gN
 have key:aq (gk n l ((l.length:Nat):Int)) (((0:Nat):Int),sel (eG n) l 0)=some (sel (eG n) l l.length):=by
  refine aV l.length (fun i=>((i:Int),sel (eG n) l i)) ?_ ?_
  ·intro i hi
   have hs:=xv (eG n) l i
   unfold gk
   simp only
   rw [if_pos (by omega),bk hi]
   simp only [obnd]
   rw [au (by omega),wr (x:=(i:Int)+1) (by omega) (by omega),Int.toNat_natCast]
   cases hb:eG n i
   ·rw [Iu hb]
    unfold eG at hb
    rw [if_neg (of_decide_eq_false hb)];rfl
   ·rw [FS hb]
    unfold eG at hb
    rw [if_pos (of_decide_eq_true hb),au (by omega),au (by omega)];rfl
  ·unfold gk
   simp only
   rw [if_neg (by omega)]
 rw [show (0:Int)=((0:Nat):Int) from rfl,show ([]:List Int)=sel (eG n) l 0 from rfl,key];rfl
noncomputable def mrg (a b:List Int):List Int:=(bM (a++b)).getD []
theorem BT {a b:List Int}(ha:Asc a)(hb:Asc b)(hd:∀ x,x∈a→x∈b→False)(h:a.length+b.length≤12) :
  bM (a++b)=some (mrg a b)∧Asc (mrg a b)∧(∀ x,x∈mrg a b↔x∈a∨x∈b)∧(mrg a b).length=a.length+b.length:=by
 obtain ⟨r,e,hp,hs⟩:=FQ (a++b) (by simpa using h)
 have hm:mrg a b=r:=by unfold mrg;rw [e];rfl
 rw [hm]
 refine ⟨e,BR hs ?_,?_,by rw [hp.length_eq,List.length_append]⟩
 ·refine hp.nodup_iff.2 ?_
  rw [List.nodup_append]
  exact ⟨ha.nodup,hb.nodup,fun x hx y hy he=>hd x hx (he ▸ hy)⟩
 ·intro x
  rw [hp.mem_iff,List.mem_append]
theorem Fv {a b:List Int}(ha:Asc a)(hb:Asc b)(hd:∀ x,x∈a→x∈b→False)(h:a.length+b.length≤12):dV a b=some (mrg a b):=by
 obtain ⟨_,m1,m2,_⟩:=BT ha hb hd h
 unfold dV
 have key:∃ r,aq (fM a b) (0,0,[])=some r∧(Asc r∧∀ x,x∈r↔x∈a∨x∈b):=by
  refine bL (a.length+b.length) (fun n st=>∃ i k:Nat,st.1=(i:Int)∧st.2.1=(k:Int)∧i+k=n∧i≤a.length∧k≤b.length∧st.2.2.length=n∧Asc st.2.2∧(∀ x,x∈st.2.2↔x∈a.take i∨x∈b.take k) ∧
   (∀ x,x∈st.2.2→(∀ hi:i<a.length,x<a[i])∧(∀ hk:k<b.length,x<b[k]))) (fun r=>Asc r∧∀ x,x∈r↔x∈a∨x∈b) ?_ ?_ ?_
  ·exact ⟨0,0,rfl,rfl,rfl,Nat.zero_le _,Nat.zero_le _,rfl,List.Pairwise.nil,by simp,by simp⟩
  ·rintro n ⟨i',k',out⟩ hn ⟨i,k,h1,h2,h3,h4,h5,h6,h7,h8,h9⟩
   simp only at h1 h2 h6 h7 h8 h9
   subst h1 h2
   left
   have takeA:∀ hi:i<a.length,(∀ hk:k<b.length,a[i]<b[k])→∃ s',(some (Step.next ((i:Int)+1,(k:Int),out++[a[i]])):Option (Step (Int × Int × List Int) (List Int)))=some (.next s')∧∃ i2 k2:Nat,s'.1=(i2:Int)∧s'.2.1=(k2:Int)∧i2+k2=n+1∧i2≤a.length∧k2≤b.length∧s'.2.2.length=n+1∧Asc s'.2.2∧(∀ x,x∈s'.2.2↔x∈a.take i2∨x∈b.take k2) ∧
     (∀ x,x∈s'.2.2→(∀ hi:i2<a.length,x<a[i2])∧(∀ hk:k2<b.length,x<b[k2])):=by
    intro hi hlt
    refine ⟨_,rfl,i+1,k,by simp,rfl,by omega,hi,h5,by simp [h6],vE h7 (fun y hy=>(h9 y hy).1 hi),?_,?_⟩
    ·intro x
     rw [List.take_succ_eq_append_getElem hi]
     simp only [List.mem_append,List.mem_singleton,h8]
     constructor
     ·rintro ((hx | hx) | hx)
      ·exact .inl (.inl hx)
      ·exact .inr hx
      ·exact .inl (.inr hx)
     ·rintro ((hx | hx) | hx)
      ·exact .inl (.inl hx)
      ·exact .inr hx
      ·exact .inl (.inr hx)
    ·intro x hx
     rcases List.mem_append.1 hx with hx | hx
     ·refine ⟨fun hi2=>?_,fun hk=>(h9 x hx).2 hk⟩
      have:=(h9 x hx).1 hi
      have:=List.pairwise_iff_getElem.1 ha i (i+1) hi hi2 (by omega)
      omega
     ·rw [List.mem_singleton.1 hx]
      exact ⟨fun hi2=>List.pairwise_iff_getElem.1 ha i (i+1) hi hi2 (by omega),fun hk=>hlt hk⟩
   have takeB:∀ hk:k<b.length,(∀ hi:i<a.length,b[k]<a[i])→∃ s',(some (Step.next ((i:Int),(k:Int)+1,out++[b[k]])):Option (Step (Int × Int × List Int) (List Int)))=some (.next s')∧∃ i2 k2:Nat,s'.1=(i2:Int)∧s'.2.1=(k2:Int)∧i2+k2=n+1∧i2≤a.length∧k2≤b.length∧s'.2.2.length=n+1∧Asc s'.2.2∧(∀ x,x∈s'.2.2↔x∈a.take i2∨x∈b.take k2) ∧
     (∀ x,x∈s'.2.2→(∀ hi:i2<a.length,x<a[i2])∧(∀ hk:k2<b.length,x<b[k2])):=by
    intro hk hlt
    refine ⟨_,rfl,i,k+1,rfl,by simp,by omega,h4,hk,by simp [h6],vE h7 (fun y hy=>(h9 y hy).2 hk),?_,?_⟩
    ·intro x
     rw [List.take_succ_eq_append_getElem hk]
     simp only [List.mem_append,List.mem_singleton,h8]
     constructor
     ·rintro ((hx | hx) | hx)
      ·exact .inl hx
      ·exact .inr (.inl hx)
      ·exact .inr (.inr hx)
     ·rintro (hx | hx | hx)
      ·exact .inl (.inl hx)
      ·exact .inl (.inr hx)
      ·exact .inr hx
    ·intro x hx
     rcases List.mem_append.1 hx with hx | hx
     ·refine ⟨fun hi=>(h9 x hx).1 hi,fun hk2=>?_⟩
      have:=(h9 x hx).2 hk
      have:=List.pairwise_iff_getElem.1 hb k (k+1) hk hk2 (by omega)
      omega
     ·rw [List.mem_singleton.1 hx]
      exact ⟨fun hi=>hlt hi,fun hk2=>List.pairwise_iff_getElem.1 hb k (k+1) hk hk2 (by omega)⟩
   unfold fM
   simp only
   have c1:(out.length+1)*8≤140737488355328:=by omega
   have c2:out.length+1≤9223372036854775807:=by omega
   simp only [au c1,au c2]
   rw [wr (x:=(i:Int)+1) (by omega) (by omega),wr (x:=(k:Int)+1) (by omega) (by omega)]
   by_cases hi:i<a.length
   ·rw [if_pos (by omega)]
    by_cases hk:k<b.length
    ·rw [if_neg (by omega),aB hi,aB hk]
     simp only [obnd]
     by_cases hlt:a[i]<b[k]
     ·rw [if_pos hlt];exact takeA hi (fun _=>hlt)
     ·rw [if_neg hlt]
      refine takeB hk (fun _=>?_)
      have:a[i]≠b[k]:=fun e=>hd a[i] (List.getElem_mem hi) (e ▸ List.getElem_mem hk)
      omega
    ·rw [if_pos (by omega),aB hi]
     simp only [obnd]
     exact takeA hi (fun hk'=>absurd hk' hk)
   ·have hk:k<b.length:=by omega
    rw [if_neg (by omega),if_pos (by omega),if_neg (by omega),aB hk]
    simp only [obnd]
    exact takeB hk (fun hi'=>absurd hi' hi)
  ·rintro ⟨i',k',out⟩ ⟨i,k,h1,h2,h3,h4,h5,h6,h7,h8,h9⟩
   simp only at h1 h2 h6 h7 h8 h9
   subst h1 h2
   obtain rfl:i=a.length:=by omega
   obtain rfl:k=b.length:=by omega
   unfold fM
   simp only
   rw [if_neg (by omega),if_neg (by omega)]
   refine ⟨_,rfl,h7,?_⟩
   simpa using h8
 obtain ⟨r,e,r1,r2⟩:=key
 rw [e]
 simp only [obnd]
 rw [Bl r1 m1 (fun x=>by rw [r2,m2])]
end Go.Proofs.QA
set_option maxRecDepth 100000
namespace Go.Proofs.QA
open Go
structure Pv (s:GShow) (i:Nat) (t:GTie):Prop where
 low:1≤t.low
 t0:t.to≠0
 watch:∀ b,s.nodes[t.to.toNat]?=some b→b.watch=0
 one:∀ j (hj:j<s.ties.length),j<i→s.ties[j].free=true→s.ties[j].to≠t.to
theorem mz {s:GShow}(h:aN s=true){i:Nat}(hi:i<s.ties.length)(hf:s.ties[i].free=true):Pv s i s.ties[i]:=by
 have hR:=dh h
 have hT:=hR.tie _ (List.getElem_mem hi)
 unfold aN at h
 simp only [Bool.and_eq_true,decide_eq_true_eq] at h
 have hp:=h.1.1.1.2 i hi
 rw [sW hi,Bool.and_eq_true] at hp
 have hF:=hp.2
 unfold kq at hF
 rw [hf] at hF
 simp only [Bool.not_true,Bool.false_or,Bool.and_eq_true,decide_eq_true_eq] at hF
 obtain ⟨⟨⟨h1,h2⟩,h3⟩,h4⟩:=hF
 have a1:=hT.t1
 have a2:=hT.f1
 have b1:s.nodes[s.ties[i].to.toNat]?=some (s.nodes[s.ties[i].to.toNat]'(by have:=hT.t0;omega)):=List.getElem?_eq_getElem _
 have b2:s.nodes[s.ties[i].from_.toNat]?=some (s.nodes[s.ties[i].from_.toNat]'(by have:=hT.f0;omega)):=List.getElem?_eq_getElem _
 rw [b1,b2] at h3
 simp only [decide_eq_true_eq] at h3
 refine ⟨h1,h2,?_,?_⟩
 ·intro b hb
  rw [b1] at hb
  cases hb
  exact h3.1
 ·intro j hj hji hfj he
  rw [Bool.not_eq_true',List.any_eq_false] at h4
  refine h4 s.ties[j] ?_ (by rw [hfj,decide_eq_true he];rfl)
  exact List.mem_take_iff_getElem.2 ⟨j,by omega,rfl⟩
theorem pP (p:Nat→Bool):∀ n,Asc (bc p n)
 | 0=>List.Pairwise.nil
 | n+1=>by
  cases hp:p n
  ·rw [dJ hp];exact pP p n
  ·rw [gz hp]
   refine vE (pP p n) ?_
   intro y hy
   obtain ⟨i,hi,_,rfl⟩:=jW.1 hy
   omega
theorem yJ (s:GShow)(x:GState):Asc (actL s x):=pP _ _
theorem vi {s:GShow}{x:GState}{k:Int}(h:k∈actL s x):∃ i,∃ hi:i<s.ties.length,k=(i:Int)∧s.ties[i].free=true∧tm x.times s.ties[i].from_≠-1∧tm x.times s.ties[i].to=-1:=by
 obtain ⟨i,hi,hp,rfl⟩:=jW.1 h
 unfold sK at hp
 rw [List.getElem?_eq_getElem hi] at hp
 simp only [Option.any_some] at hp
 unfold actT at hp
 simp only [Bool.and_eq_true,decide_eq_true_eq] at hp
 exact ⟨i,hi,rfl,hp.1,hp.2.1,hp.2.2⟩
theorem Ew {s:GShow}(h:aN s=true){i j:Nat}(hi:i<s.ties.length)(hj:j<s.ties.length)(hf:s.ties[i].free=true)(hg:s.ties[j].free=true)(he:s.ties[i].to=s.ties[j].to):i=j:=by
 rcases Nat.lt_trichotomy i j with hlt | he' | hlt
 ·exact absurd he ((mz h hj hg).one i hi hlt hf)
 ·exact he'
 ·exact absurd he.symm ((mz h hi hf).one j hj hlt hg)
theorem Bo {s:GShow}(h:aN s=true)(x:GState):(actL s x).length≤6:=by
 have hR:=dh h
 have hn:=hR.nodes
 have hnd:((actL s x).map (fun k=>(ca s k).to)).Nodup:=by
  unfold List.Nodup
  rw [List.pairwise_map]
  refine List.Pairwise.imp_of_mem ?_ (yJ s x)
  intro a b ha hb hab he
  obtain ⟨i,hi,rfl,hf,_,_⟩:=vi ha
  obtain ⟨j,hj,rfl,hg,_,_⟩:=vi hb
  rw [ie hi,ie hj] at he
  have:=Ew h hi hj hf hg he
  omega
 have:=un (r:=[1,2,3,4,5,6]) hnd (fun y hy=>by
  rw [List.mem_map] at hy
  obtain ⟨k,hk,rfl⟩:=hy
  obtain ⟨i,hi,rfl,hf,_,_⟩:=vi hk
  rw [ie hi]
  have hT:=hR.tie _ (List.getElem_mem hi)
  have h0:=(mz h hi hf).t0
  have h1:=hT.t0
  have h2:=hT.t1
  simp only [List.mem_cons,List.not_mem_nil,or_false]
  omega)
 simpa using this
def uo (s:GShow)(x:GState)(k:Int):Bool:=decide ((ca s k).high≤x.now - tm x.times (ca s k).from_)
def mayT (s:GShow)(x:GState)(k:Int):Bool:=!uo s x k&&decide ((ca s k).low≤x.now - tm x.times (ca s k).from_)
def mM (s:GShow)(x:GState):List Int:=(actL s x).filter (uo s x)
def mayL (s:GShow)(x:GState):List Int:=(actL s x).filter (mayT s x)
noncomputable def pQ (s:GShow)(x:GState)(n:Nat):List Int:=mrg (mM s x) (sel (eG (n:Int)) (mayL s x) (mayL s x).length)
noncomputable def dL (s:GShow)(x:GState):List (List Int):=if s.horizon<x.now then [] else (List.range (2^(mayL s x).length)).map (pQ s x)
theorem Al {α:Type}(p q:α→Bool)(h:∀ x,p x=true→q x=false):∀ l:List α,(l.filter p).length+(l.filter q).length≤l.length
 | []=>by simp
 | x::l=>by
  have ih:=Al p q h l
  have hx:=h x
  cases hp:p x
  ·cases hq:q x <;> simp [List.filter_cons,hp,hq] <;> omega
  ·rw [hp] at hx
   have:=hx rfl
   simp [List.filter_cons,hp,this];omega
theorem yK (s:GShow)(x:GState):(mM s x).length+(mayL s x).length≤(actL s x).length:=Al _ _ (fun k h=>by unfold mayT;rw [h];rfl) _
theorem BU (s:GShow)(x:GState):Asc (mM s x):=(yJ s x).filter _
theorem Jz (s:GShow)(x:GState):Asc (mayL s x):=(yJ s x).filter _
theorem Hb (s:GShow)(x:GState)(k:Int)(h1:k∈mM s x)(h2:k∈mayL s x):False:=by
 have a:=(List.mem_filter.1 h1).2
 have b:=(List.mem_filter.1 h2).2
 unfold mayT at b
 rw [a] at b
 simp at b
theorem ye {s:GShow}(h:aN s=true)(x:GState)(n:Nat) :
  bM (mM s x++sel (eG (n:Int)) (mayL s x) (mayL s x).length)=some (pQ s x n)∧dV (mM s x) (sel (eG (n:Int)) (mayL s x) (mayL s x).length)=some (pQ s x n) ∧
  Asc (pQ s x n)∧(∀ k,k∈pQ s x n→k∈actL s x)∧(pQ s x n).length=(mM s x).length+(sel (eG (n:Int)) (mayL s x) (mayL s x).length).length∧(pQ s x n).length≤6:=by
 have h6:=Bo h x
 have hmm:=yK s x
 have hsl:=xv (eG (n:Int)) (mayL s x) (mayL s x).length
 have hasc:=Bn (p:=eG (n:Int)) (Jz s x) (mayL s x).length (Nat.le_refl _)
 have hdis:∀ k,k∈mM s x→k∈sel (eG (n:Int)) (mayL s x) (mayL s x).length→False:=fun k h1 h2=>Hb s x k h1 (Ev h2)
 obtain ⟨m1,m2,m3,m4⟩:=BT (BU s x) hasc hdis (by omega)
 refine ⟨m1,Fv (BU s x) hasc hdis (by omega),m2,?_,m4,by unfold pQ;omega⟩
 intro k hk
 rcases (m3 k).1 hk with h1 | h1
 ·exact (List.mem_filter.1 h1).1
 ·exact (List.mem_filter.1 (Ev h1)).1
theorem yf {α:Type}(p:α→Bool){l:List α}{i:Nat}(hi:i<l.length):(l.take (i+1)).filter p=(l.take i).filter p++(if p l[i]=true then [l[i]] else []):=by
 rw [List.take_succ_eq_append_getElem hi,List.filter_append]
 cases hp:p l[i] <;> simp [hp]
theorem lC {α:Type}(f:Nat→α)(n:Nat):(List.range (n+1)).map f=(List.range n).map f++[f n]:=by
 rw [List.range_succ,List.map_append];rfl
theorem vF {m:Nat}(h:m≤7):2^m≤128:=by
 have:∀ m:Nat,m<8→2^m≤128:=by decide
 exact this m (by omega)
theorem wS {m:Nat}(h:m≤7):IntKind.wrap .i64 (1*2^(min m 64))=((2^m:Nat):Int):=by
 have hb:=vF h
 rw [Nat.min_eq_left (by omega),Int.one_mul]
 have:(2:Int)^m=((2^m:Nat):Int):=by simp
 rw [this]
 generalize 2^m=q at *
 exact wr (by omega) (by omega)
theorem JA {s:GShow}{x:GState}(hx:aD s x=true){i:Nat}(hi:i<(actL s x).length) :
  getI s.ties (actL s x)[i]=some (ca s (actL s x)[i])∧getI x.times (ca s (actL s x)[i]).from_=some (tm x.times (ca s (actL s x)[i]).from_) ∧
  IntKind.wrap .i64 (x.now - tm x.times (ca s (actL s x)[i]).from_)=x.now - tm x.times (ca s (actL s x)[i]).from_:=by
 have hR:=eF hx
 have hnow:=GX hx
 have hlen:=hR.len
 obtain ⟨j,hj,e,hf,_,_⟩:=vi (List.getElem_mem hi)
 rw [e,ie hj]
 have hT:=hR.right.tie _ (List.getElem_mem hj)
 have hb:=hR.all _ hT.f0 hT.f1
 refine ⟨aB hj,gb hT.f0 (by have:=hT.f1;omega),wr (by omega) (by omega)⟩
theorem vG {s:GShow}{x:GState}(hx:aD s x=true):fi s x=some (dL s x):=by
 have hR:=eF hx
 have hok:aN s=true:=by unfold aD at hx;simp only [Bool.and_eq_true] at hx;exact hx.1.1.1.1.1
 have h6:=Bo hok x
 have hmm:=yK s x
 unfold fi dL
 by_cases hh:s.horizon<x.now
 ·rw [if_pos hh,if_pos hh]
 rw [if_neg hh,if_neg hh,BP s x hR]
 simp only [obnd]
 have k1:aq (gm (((actL s x).length:Nat):Int) s.nodes s.ties s.horizon x.now x.times x.values (actL s x)) (((0:Nat):Int),((actL s x).take 0).filter (uo s x),((actL s x).take 0).filter (mayT s x))=some (mM s x,mayL s x):=by
  refine aV (actL s x).length (fun i=>((i:Int),((actL s x).take i).filter (uo s x),((actL s x).take i).filter (mayT s x))) ?_ ?_
  ·intro i hi
   obtain ⟨e1,e2,e3⟩:=JA hx hi
   have l1:=List.length_filter_le (uo s x) ((actL s x).take i)
   have l2:=List.length_filter_le (mayT s x) ((actL s x).take i)
   rw [List.length_take] at l1 l2
   unfold gm
   simp only
   rw [if_pos (by omega),aB hi]
   simp only [obnd]
   rw [e1]
   simp only
   rw [e2]
   simp only
   rw [e3,au (by omega),au (by omega),au (by omega),au (by omega),wr (x:=(i:Int)+1) (by omega) (by omega),yf (uo s x) hi,yf (mayT s x) hi]
   by_cases hm:(ca s (actL s x)[i]).high≤x.now - tm x.times (ca s (actL s x)[i]).from_
   ·have a1:uo s x (actL s x)[i]=true:=decide_eq_true hm
    have a2:mayT s x (actL s x)[i]=false:=by unfold mayT;rw [a1];rfl
    rw [if_pos hm,a1,a2];simp
   ·have a1:uo s x (actL s x)[i]=false:=decide_eq_false hm
    rw [if_neg hm,a1]
    by_cases hl:(ca s (actL s x)[i]).low≤x.now - tm x.times (ca s (actL s x)[i]).from_
    ·have a2:mayT s x (actL s x)[i]=true:=by unfold mayT;rw [a1,decide_eq_true hl];rfl
     rw [if_pos hl,a2];simp
    ·have a2:mayT s x (actL s x)[i]=false:=by unfold mayT;rw [a1,decide_eq_false hl];rfl
     rw [if_neg hl,a2];simp
  ·unfold gm
   simp only
   rw [if_neg (by omega),List.take_length];rfl
 simp only [List.take_zero,List.filter_nil,Int.natCast_zero] at k1
 rw [k1]
 simp only
 have hpow:=vF (m:=(mayL s x).length) (by omega)
 have k2:aq (gn (mM s x) (mayL s x)) (((0:Nat):Int),(List.range 0).map (pQ s x))=some ((List.range (2^(mayL s x).length)).map (pQ s x)):=by
  refine aV (2^(mayL s x).length) (fun i=>((i:Int),(List.range i).map (pQ s x))) ?_ ?_
  ·intro i hi
   obtain ⟨f1,f2,f3,f4,f5,f6⟩:=ye hok x i
   have hsl:=xv (eG (i:Int)) (mayL s x) (mayL s x).length
   unfold gn
   simp only
   rw [au (by omega),wS (by omega),if_pos (by omega),Ak _ _ (by omega)]
   simp only [obnd]
   rw [It _ (by simp) (by simp;omega)]
   simp only
   rw [show [mM s x,sel (eG (i:Int)) (mayL s x) (mayL s x).length].flatten=mM s x++sel (eG (i:Int)) (mayL s x) (mayL s x).length by simp,f1]
   simp only
   rw [au (by rw [f5,List.length_append]),au (by simp;omega),au (by simp;omega),wr (x:=(i:Int)+1) (by omega) (by omega),lC];rfl
  ·unfold gn
   simp only
   rw [au (by omega),wS (by omega),if_neg (by omega)]
 simp only [List.range_zero,List.map_nil,Int.natCast_zero] at k2
 rw [k2]
theorem tF {s:GShow}{x:GState}(hok:aN s=true){ties:List Int}(h:ties∈dL s x):x.now≤s.horizon∧ties.length≤6∧(∀ k,k∈ties→k∈actL s x):=by
 unfold dL at h
 by_cases hh:s.horizon<x.now
 ·rw [if_pos hh] at h;simp at h
 rw [if_neg hh,List.mem_map] at h
 obtain ⟨n,_,rfl⟩:=h
 obtain ⟨f1,f2,f3,f4,f5,f6⟩:=ye hok x n
 exact ⟨by omega,f6,f4⟩
theorem wT {s:GShow}{x:GState}(hok:aN s=true):(dL s x).length≤128:=by
 unfold dL
 have h6:=Bo hok x
 have hmm:=yK s x
 have hpow:=vF (m:=(mayL s x).length) (by omega)
 split
 ·simp
 ·simpa using hpow
theorem Bp (xs:List (List Int))(p:List Int→Option Bool)(q:List Int→Bool)(hx:Cnt xs.length)(hp:∀ x,x∈xs→p x=some (q x)):cP xs p=some (aI xs q):=by
 unfold cP aI
 have key:=jG (body:=bD xs p ((xs.length:Nat):Int)) xs q (fun i=>(i:Int)) (rT:=.inl ()) (fun i=>.inr (i:Int)) ?_ ?_ ?_
 ·rw [show (0:Int)=((0:Nat):Int) from rfl,key]
  simp only [obnd]
  cases xs.findIdx? q <;> rfl
 ·intro i hi hq
  unfold bD
  unfold Cnt at hx
  rw [if_pos (by omega),aB hi,wr (x:=(i:Int)+1) (by omega) (by omega)]
  simp only [obnd]
  rw [hp _ (List.getElem_mem hi),hq];rfl
 ·intro i hi hq
  unfold bD
  rw [if_pos (by omega),aB hi]
  simp only [obnd]
  rw [hp _ (List.getElem_mem hi),hq];rfl
 ·unfold bD
  rw [if_neg (by omega)]
theorem yL (xs:List (List Int))(l:List Int)(hx:Cnt xs.length)(hl:Cnt l.length):jS xs l=some (decide (l∈xs)):=by
 unfold jS dl
 rw [Bp xs _ (fun y=>decide (l=y)) hx (fun y _=>by unfold mK;rw [rO l y hl];rfl)]
 simp only [obnd]
 rw [lp]
 congr 1
 rw [Bool.eq_iff_iff,List.any_eq_true,decide_eq_true_eq]
 simp
def bQ (f:Int→Int)(v:Int)(ks t:List Int):List Int:=ks.foldl (fun t k=>t.set (f k).toNat v) t
theorem yg (f:Int→Int)(v:Int)(ks:List Int)(k:Int)(t:List Int):bQ f v (ks++[k]) t=(bQ f v ks t).set (f k).toNat v:=by
 unfold bQ;rw [List.foldl_append];rfl
theorem dX (f:Int→Int)(v:Int):∀ (ks t:List Int),(bQ f v ks t).length=t.length
 | [],t=>rfl
 | k::ks,t=>by
  show (bQ f v ks (t.set (f k).toNat v)).length=_
  rw [dX f v ks,List.length_set]
theorem Ex (t:List Int)(j i v:Int)(hj:0≤j)(hj2:j<t.length)(hi:0≤i):tm (t.set j.toNat v) i=if i=j then v else tm t i:=by
 unfold tm
 rw [List.getElem?_set]
 by_cases h:i=j
 ·subst h
  rw [if_pos rfl,if_pos (by omega),if_pos rfl];rfl
 ·rw [if_neg (by omega),if_neg h]
theorem wU (f:Int→Int)(v:Int):∀ (ks t:List Int) (i:Int),0≤i→(∀ k,k∈ks→0≤f k∧f k<t.length)→tm (bQ f v ks t) i=if i∈ks.map f then v else tm t i
 | [],t,i,_,_=>by simp [bQ]
 | k::ks,t,i,h0,h=>by
  have hk:=h k (by simp)
  show tm (bQ f v ks (t.set (f k).toNat v)) i=_
  rw [wU f v ks _ i h0 (fun k' hk'=>by rw [List.length_set];exact h k' (by simp [hk'])),Ex _ _ _ _ hk.1 hk.2 h0]
  by_cases h1:i∈ks.map f
  ·rw [if_pos h1,if_pos (by simp only [List.map_cons,List.mem_cons];exact .inr h1)]
  ·rw [if_neg h1]
   by_cases h2:i=f k
   ·rw [if_pos h2,if_pos (by simp [h2])]
   ·rw [if_neg h2,if_neg (by simp only [List.map_cons,List.mem_cons];rintro (h3 | h3);exact h2 h3;exact h1 h3)]
theorem pR (x:GState)(h1:x.times.length≤1048576)(h2:x.values.length≤1048576):cz x=some x:=by
 unfold cz
 rw [fP _ h1,fP _ h2];rfl
theorem Hc (x:GState)(h1:x.times.length≤1048576)(h2:x.values.length≤1048576):cL x=some x:=by
 unfold cL
 rw [au (by omega),au (by omega),au (by omega),au (by omega)]
def endX (s:GShow)(x:GState)(ties:List Int):GState:=⟨x.now,bQ (fun k=>(ca s k).to) x.now ties x.times,x.values⟩
theorem Am {s:GShow}{x:GState}(hx:aD s x=true){ties:List Int}(ht:∀ k,k∈ties→k∈actL s x){i:Nat}(hi:i<ties.length) :
  getI s.ties ties[i]=some (ca s ties[i])∧0≤(ca s ties[i]).to∧(ca s ties[i]).to<x.times.length:=by
 have hR:=eF hx
 have hlen:=hR.len
 obtain ⟨j,hj,e,_,_,_⟩:=vi (ht _ (List.getElem_mem hi))
 rw [e,ie hj]
 have hT:=hR.right.tie _ (List.getElem_mem hj)
 exact ⟨aB hj,hT.t0,by have:=hT.t1;omega⟩
theorem yM {s:GShow}{x:GState}(hx:aD s x=true)(h2:x.values.length≤1048576){ties:List Int}(hl:ties.length≤1000)(ht:∀ k,k∈ties→k∈actL s x):hX s x ties=some (endX s x ties):=by
 have hR:=eF hx
 have hlen:=hR.len
 have hn:=hR.right.nodes
 unfold hX
 rw [pR x (by omega) h2]
 simp only [obnd]
 have key:aq (iJ ties ((ties.length:Nat):Int) s.nodes s.ties s.horizon x.now x.times x.values x.now x.values) (((0:Nat):Int),bQ (fun k=>(ca s k).to) x.now (ties.take 0) x.times)=some (bQ (fun k=>(ca s k).to) x.now ties x.times):=by
  refine aV ties.length (fun i=>((i:Int),bQ (fun k=>(ca s k).to) x.now (ties.take i) x.times)) ?_ ?_
  ·intro i hi
   obtain ⟨e1,e2,e3⟩:=Am hx ht hi
   unfold iJ
   simp only
   rw [if_pos (by omega),aB hi]
   simp only [obnd]
   rw [e1]
   simp only
   rw [gb e2 (by rw [dX];exact e3)]
   simp only
   rw [wr (x:=(i:Int)+1) (by omega) (by omega),List.take_succ_eq_append_getElem hi,yg];rfl
  ·unfold iJ
   simp only
   rw [if_neg (by omega),List.take_length]
 rw [List.take_zero] at key
 change obnd (aq _ (((0:Nat):Int),bQ (fun k=>(ca s k).to) x.now [] x.times)) _=_
 rw [key];rfl
def JY (x:GState):GState:=⟨x.now+1,x.times,x.values⟩
def DA (s:GShow)(x:GState):Bool:=decide (0≤x.now∧x.now≤s.horizon)&&aD s (JY x)
theorem FU {s:GShow}{x:GState}(hx:aD s x=true){ties:List Int}(ht:∀ k,k∈ties→k∈actL s x){i:Int}(hi:0≤i) :
  tm (endX s x ties).times i=if i∈ties.map (fun k=>(ca s k).to) then x.now else tm x.times i:=by
 unfold endX
 refine wU _ _ _ _ _ hi ?_
 intro k hk
 obtain ⟨j,hj,rfl⟩:=List.getElem_of_mem hk
 exact (Am hx ht hj).2
theorem An {s:GShow}{x:GState}(hok:aN s=true){ties:List Int}(ht:∀ k,k∈ties→k∈actL s x){i:Int}(h:i∈ties.map (fun k=>(ca s k).to)):i≠0∧∀ b,s.nodes[i.toNat]?=some b→b.watch=0:=by
 rw [List.mem_map] at h
 obtain ⟨k,hk,rfl⟩:=h
 obtain ⟨j,hj,rfl,hf,_,_⟩:=vi (ht _ hk)
 rw [ie hj]
 have:=mz hok hj hf
 exact ⟨this.t0,this.watch⟩
theorem yN {s:GShow}{x:GState}(hx:aD s x=true)(hh:x.now≤s.horizon){ties:List Int}(ht:∀ k,k∈ties→k∈actL s x):DA s (endX s x ties)=true:=by
 have hnow:=GX hx
 have hx0:=hx
 have hl:(endX s x ties).times.length=x.times.length:=dX _ _ _ _
 unfold aD at hx
 simp only [Bool.and_eq_true,decide_eq_true_eq] at hx
 obtain ⟨⟨⟨⟨⟨h1,h2⟩,h3⟩,h4⟩,h5⟩,h6⟩:=hx
 unfold DA aD
 simp only [Bool.and_eq_true,decide_eq_true_eq]
 refine ⟨⟨h2.1,hh⟩,⟨⟨⟨⟨h1,?_⟩,?_⟩,h4⟩,?_⟩,?_⟩
 ·show 0≤x.now+1∧x.now+1≤s.horizon+1
  omega
 ·exact hl.trans h3
 ·intro i hi
  have hi':i<x.times.length:=by rw [← hl];exact hi
  have h5i:=h5 i hi'
  unfold pN at h5i ⊢
  have e:=FU hx0 ht (i:=(i:Int)) (by omega)
  show (if i=0 then decide (tm (endX s x ties).times 0=0) else decide (-1≤tm (endX s x ties).times i∧tm (endX s x ties).times i≤x.now+1 - 1))=true
  by_cases hi0:i=0
  ·rw [if_pos hi0] at h5i ⊢
   subst hi0
   rw [show ((0:Nat):Int)=0 from rfl] at e
   rw [e,if_neg (fun h=>(An h1 ht h).1 rfl)]
   exact h5i
  ·rw [if_neg hi0] at h5i ⊢
   rw [decide_eq_true_eq] at h5i ⊢
   rw [e]
   split
   ·omega
   ·omega
 ·intro i hi
  have h6i:=h6 i hi
  unfold lc at h6i ⊢
  show (decide (tm x.values i≠0) == (decide (0≤aI s.nodes (fun n=>decide (n.watch=(i:Int)+1)))&&decide (tm (endX s x ties).times (aI s.nodes (fun n=>decide (n.watch=(i:Int)+1)))≠-1)))=true
  by_cases hw:0≤aI s.nodes (fun n=>decide (n.watch=(i:Int)+1))
  ·obtain ⟨j,hj,e,hq,_⟩:=gD hw
   rw [FU hx0 ht hw,if_neg ?_]
   ·exact h6i
   ·intro hm
    have:=(An h1 ht hm).2 s.nodes[j] (by rw [e,Int.toNat_natCast,List.getElem?_eq_getElem hj])
    rw [decide_eq_true_eq] at hq
    omega
  ·rw [decide_eq_false hw] at h6i ⊢
   simpa using h6i
end Go.Proofs.QA
set_option maxRecDepth 100000
namespace Go.Proofs.QA
open Go
def litV (v:List Int)(x:Int):Int:=if x<0 then 0 - tm v (pr x - 1) else tm v (pr x - 1)
def kH (l v:List Int):Int:=l.foldl (fun o x=>if litV v x<o then litV v x else o) 1
theorem Ey {x:Int}(h1:-3≤x)(h2:x≤3):pr x≤3:=by
 unfold pr
 split
 ·rw [wr (by omega) (by omega)];omega
 ·omega
theorem bR {v:List Int}(h:dq v=true):v.length=3∧∀ x,x∈v→-1≤x∧x≤1:=by
 unfold dq at h
 simp only [Bool.and_eq_true,decide_eq_true_eq,List.all_eq_true] at h
 exact h
theorem FV {l v:List Int}(hl:bo l=true)(hv:dq v=true){x:Int}(hx:x∈l):getI v (IntKind.wrap .i64 (pr x - 1))=some (tm v (pr x - 1))∧IntKind.wrap .i64 (0 - tm v (pr x - 1))=0 - tm v (pr x - 1):=by
 obtain ⟨h1,h2,h3⟩:=ET hl hx
 have h4:=Ey h2 h3
 obtain ⟨v1,v2⟩:=bR hv
 have hb:=v2 _ (NN (ts:=v) (i:=pr x - 1) (by omega) (by omega))
 rw [wr (x:=pr x - 1) (by omega) (by omega)]
 exact ⟨gb (by omega) (by omega),wr (by omega) (by omega)⟩
theorem uq {l v:List Int}(hl:bo l=true)(hv:dq v=true)(hc:Cnt l.length):eo l v=some (kH l v):=by
 have v1:=(bR hv).1
 unfold eo
 rw [lj l hc,hl]
 simp only [obnd,if_true]
 rw [wc v (by unfold Cnt;omega),hv]
 simp only [if_true]
 have key:aq (dR v l ((l.length:Nat):Int)) ((l.take 0).foldl (fun o x=>if litV v x<o then litV v x else o) 1,((0:Nat):Int))=some (kH l v):=by
  refine aV l.length (fun i=>((l.take i).foldl (fun o x=>if litV v x<o then litV v x else o) 1,(i:Int))) ?_ ?_
  ·intro i hi
   unfold Cnt at hc
   obtain ⟨e1,e2⟩:=FV hl hv (List.getElem_mem hi)
   unfold dR
   simp only
   rw [if_pos (by omega),aB hi,wr (x:=(i:Int)+1) (by omega) (by omega)]
   simp only [obnd]
   have hh:kT l[i] v=some (litV v l[i]):=by
    unfold kT litV
    rw [rM]
    simp only [obnd]
    rw [e1]
    simp only
    rw [e2]
    split <;> rfl
   rw [hh]
   simp only
   rw [List.take_succ_eq_append_getElem hi,List.foldl_append];rfl
  ·unfold dR
   simp only
   rw [if_neg (by omega),List.take_length];rfl
 rw [List.take_zero] at key
 change obnd (aq _ (1,((0:Nat):Int))) _=_
 rw [show (1:Int)=([]:List Int).foldl (fun o x=>if litV v x<o then litV v x else o) 1 from rfl,key];rfl
theorem Fw {l v:List Int}(hl:bo l=true)(hv:dq v=true)(hc:Cnt l.length):bH l v=some (kH l v):=by
 unfold bH
 have key:aq (fN v l ((l.length:Nat):Int)) ((l.take 0).foldl (fun o x=>if litV v x<o then litV v x else o) 1,((0:Nat):Int))=some (kH l v):=by
  refine aV l.length (fun i=>((l.take i).foldl (fun o x=>if litV v x<o then litV v x else o) 1,(i:Int))) ?_ ?_
  ·intro i hi
   unfold Cnt at hc
   obtain ⟨e1,e2⟩:=FV hl hv (List.getElem_mem hi)
   unfold fN
   simp only
   rw [if_pos (by omega),aB hi,wr (x:=(i:Int)+1) (by omega) (by omega)]
   simp only [obnd]
   rw [sO]
   simp only
   rw [e1]
   simp only
   rw [e2,List.take_succ_eq_append_getElem hi,List.foldl_append]
   unfold litV
   simp only [List.foldl_cons,List.foldl_nil]
   by_cases hx:l[i]<0
   ·simp only [if_pos hx];rfl
   ·simp only [if_neg hx];rfl
  ·unfold fN
   simp only
   rw [if_neg (by omega),List.take_length];rfl
 rw [List.take_zero] at key
 change obnd (aq _ (1,((0:Nat):Int))) _=_
 rw [show (1:Int)=([]:List Int).foldl (fun o x=>if litV v x<o then litV v x else o) 1 from rfl,key];rfl
def wV (s:GShow)(k:Int):Int:=aI s.ties (fun t=>t.free&&decide (t.to=k))
def mN (s:GShow)(i:Nat):List Int:=((s.nodes[i]?).map (fun n=>n.label)).getD []
def chAt (s:GShow)(i:Nat):Bool:=decide (0<i)&&decide (wV s (i:Int)<0)
def opAt (s:GShow)(x:GState)(i:Nat):Bool:=decide (tm x.times (i:Int)=-1)&&decide (kH (mN s i) x.values=1)
def enAt (s:GShow)(x:GState)(i:Nat):Bool:=chAt s i&&opAt s x i
def enL (s:GShow)(x:GState):List Int:=bc (enAt s x) s.nodes.length
theorem wd (p:Nat→Bool)(q:Int→Bool):∀ n,(bc p n).filter q=bc (fun i=>p i&&q (i:Int)) n
 | 0=>rfl
 | n+1=>by
  have ih:=wd p q n
  cases hp:p n
  ·rw [dJ hp,dJ (by simp [hp]),ih]
  ·rw [gz hp,List.filter_append,ih]
   cases hq:q (n:Int)
   ·rw [dJ (by simp [hp,hq])];simp [hq]
   ·rw [gz (by simp [hp,hq])];simp [hq]
theorem wW {p q:Nat→Bool}:∀ {n:Nat},(∀ i,i<n→p i=q i)→bc p n=bc q n
 | 0,_=>rfl
 | n+1,h=>by
  have ih:=wW (n:=n) (fun i hi=>h i (by omega))
  have hn:=h n (by omega)
  cases hp:p n
  ·rw [dJ hp,dJ (by rw [← hn];exact hp),ih]
  ·rw [gz hp,gz (by rw [← hn];exact hp),ih]
theorem Hd (s:GShow)(k:Int)(hs:bw s):jx s k=some (wV s k):=by
 unfold jx wV
 rw [wg s.ties _ (fun t=>t.free&&decide (t.to=k)) hs.ties]
 ·rfl
 ·intro t _
  unfold iY
  cases t.free <;> rfl
theorem Iv (s:GShow)(hs:bw s)(hR:qZ s):ki s=some (bc (chAt s) s.nodes.length):=by
 have h1:=hR.node1
 have h7:=hR.nodes
 unfold ki
 have key:aq (hY s.nodes s.ties s.horizon) (((0:Nat):Int)+1,bc (chAt s) (0+1))=some (bc (chAt s) s.nodes.length):=by
  refine aV (s.nodes.length - 1) (fun i=>((i:Int)+1,bc (chAt s) (i+1))) ?_ ?_
  ·intro i hi
   have hl:=gA (chAt s) (i+1)
   unfold hY
   simp only
   rw [if_pos (by omega),show (GShow.mk s.nodes s.ties s.horizon)=s from rfl,Hd s _ hs,wr (x:=(i:Int)+1+1) (by omega) (by omega),au (by omega),au (by omega)]
   simp only [obnd]
   have e:chAt s (i+1)=decide (wV s ((i:Int)+1)<0):=by
    unfold chAt
    rw [decide_eq_true (show 0<i+1 by omega),Bool.true_and];rfl
   by_cases hf:wV s ((i:Int)+1)<0
   ·rw [if_pos hf,gz (n:=i+1) (by rw [e];exact decide_eq_true hf)];rfl
   ·rw [if_neg hf,dJ (n:=i+1) (by rw [e];exact decide_eq_false hf)];rfl
  ·unfold hY
   simp only
   rw [if_neg (by omega),show s.nodes.length - 1+1=s.nodes.length by omega]
 have e0:bc (chAt s) (0+1)=[]:=by rw [dJ (by rfl)];rfl
 rw [e0] at key
 change obnd (aq _ (((0:Nat):Int)+1,[])) _=_
 rw [key];rfl
theorem Ao {s:GShow}(hok:aN s=true){i:Nat}(hi:i<s.nodes.length):bo s.nodes[i].label=true∧0≤s.nodes[i].watch∧s.nodes[i].watch≤3:=by
 unfold aN at hok
 simp only [Bool.and_eq_true] at hok
 have h:=yo hok.1.1.1.1 _ (List.getElem_mem hi)
 have h2:=h
 unfold kl at h2
 simp only [Bool.and_eq_true,decide_eq_true_eq] at h2
 exact ⟨xe h,h2.2⟩
theorem yO {s:GShow}{i:Nat}(hi:i<s.nodes.length):mN s i=s.nodes[i].label:=by
 unfold mN
 rw [List.getElem?_eq_getElem hi];rfl
structure MomR (s:GShow) (x:GState):Prop where
 ok:aN s=true
 right:qZ s
 now:0≤x.now∧x.now≤s.horizon
 len:x.times.length=s.nodes.length
 val:dq x.values=true
 nxt:aD s (JY x)=true
theorem wX {s:GShow}{x:GState}(h:DA s x=true):MomR s x:=by
 unfold DA at h
 simp only [Bool.and_eq_true,decide_eq_true_eq] at h
 obtain ⟨h1,h2⟩:=h
 have h3:=h2
 unfold aD at h2
 simp only [Bool.and_eq_true,decide_eq_true_eq] at h2
 obtain ⟨⟨⟨⟨⟨a1,a2⟩,a3⟩,a4⟩,a5⟩,a6⟩:=h2
 exact ⟨a1,dh a1,h1,a3,a4,h3⟩
theorem He {s:GShow}{x:GState}(hs:bw s)(h:MomR s x):jy s x=some (enL s x):=by
 have h7:=h.right.nodes
 have hln:=h.len
 have hpl:=gA (chAt s) s.nodes.length
 unfold jy
 rw [Iv s hs h.right]
 simp only [obnd]
 rw [vh _ _ (fun k=>!(decide (tm x.times k=-1)&&decide (kH (mN s k.toNat) x.values=1))) (by unfold Cnt;omega)]
 ·simp only [Bool.not_not]
  rw [wd]
  unfold enL
  rw [wW (q:=enAt s x)]
  intro i hi
  unfold enAt opAt
  rw [Int.toNat_natCast]
 ·intro k hk
  obtain ⟨i,hi,_,rfl⟩:=jW.1 hk
  unfold iZ
  rw [tE (by omega)]
  simp only [obnd]
  by_cases ht:tm x.times (i:Int)=-1
  ·rw [if_pos ht]
   unfold bZ
   rw [aB hi]
   simp only [obnd]
   rw [uq (Ao h.ok hi).1 h.val (hs.node _ (List.getElem_mem hi)).2,decide_eq_true ht,Int.toNat_natCast,yO hi]
   simp
  ·rw [if_neg ht,decide_eq_false ht];rfl
def xw (s:GShow)(x:GState)(j:Nat):List Int:=sel (eG ((2^(enL s x).length - 1 - j:Nat):Int)) (enL s x) (enL s x).length
def decL (s:GShow)(x:GState):List (List Int):=(List.range (2^(enL s x).length)).map (xw s x)
theorem Bq {s:GShow}(hR:qZ s)(x:GState):(enL s x).length≤7:=by
 have:=gA (enAt s x) s.nodes.length
 have:=hR.nodes
 unfold enL;omega
theorem tG {s:GShow}{x:GState}(hs:bw s)(h:MomR s x):dm s x=some (decL s x):=by
 have h7:=Bq h.right x
 have hpow:=vF h7
 have hpos:0<2^(enL s x).length:=Nat.pow_pos (by omega)
 unfold dm
 rw [He hs h]
 simp only [obnd]
 rw [au (by omega),wS h7]
 unfold decL
 have hd:∀ j,xw s x j=sel (eG ((2^(enL s x).length - 1 - j:Nat):Int)) (enL s x) (enL s x).length:=fun _=>rfl
 generalize 2^(enL s x).length=q at *
 rw [wr (by omega) (by omega)]
 have key:aq (eO (enL s x)) ((q:Int) - 1 - ((0:Nat):Int),(List.range 0).map (xw s x))=some ((List.range q).map (xw s x)):=by
  refine aV q (fun i=>((q:Int) - 1 - (i:Int),(List.range i).map (xw s x))) ?_ ?_
  ·intro i hi
   unfold eO
   simp only
   rw [if_pos (by omega),Ak _ _ (by omega),wr (by omega) (by omega)]
   simp only [obnd]
   rw [au (by simp;omega),au (by simp;omega),lC,hd i,show (((q - 1 - i:Nat)):Int)=(q:Int) - 1 - (i:Int) by omega,show (q:Int) - 1 - (i:Int) - 1=(q:Int) - 1 - ((i+1:Nat):Int) by omega]
  ·unfold eO
   simp only
   rw [if_neg (by omega)]
 simp only [List.range_zero,List.map_nil,Int.natCast_zero,Int.sub_zero] at key
 rw [key]
theorem ut {s:GShow}{x:GState}{k:Int}(h:k∈enL s x):∃ i,i<s.nodes.length∧k=(i:Int)∧0<i∧tm x.times (i:Int)=-1:=by
 obtain ⟨i,hi,hp,rfl⟩:=jW.1 h
 unfold enAt chAt opAt at hp
 simp only [Bool.and_eq_true,decide_eq_true_eq] at hp
 exact ⟨i,hi,rfl,hp.1.1,hp.2.1⟩
theorem lf {s:GShow}{x:GState}(hR:qZ s){nodes:List Int}(h:nodes∈decL s x):Asc nodes∧nodes.length≤7∧∀ k,k∈nodes→k∈enL s x:=by
 unfold decL at h
 rw [List.mem_map] at h
 obtain ⟨j,_,rfl⟩:=h
 have h7:=Bq hR x
 have:=xv (eG ((2^(enL s x).length - 1 - j:Nat):Int)) (enL s x) (enL s x).length
 exact ⟨Bn (pP _ _) _ (Nat.le_refl _),by unfold xw;omega,fun k hk=>Ev hk⟩
theorem vH {s:GShow}(hR:qZ s)(x:GState):(decL s x).length≤128:=by
 unfold decL
 simpa using vF (Bq hR x)
def vj (s:GShow)(k:Int):Int:=((s.nodes[k.toNat]?).map (fun n=>n.watch)).getD 0
def fm (s:GShow)(p:Int):Int:=aI s.nodes (fun n=>decide (n.watch=p))
def aF (s:GShow)(nodes:List Int):List Int:=[1,2,3].filter (fun p=>decide (fm s p∈nodes))
def decX (x:GState)(nodes:List Int):GState:=⟨x.now,bQ (fun k=>k) x.now nodes x.times,x.values⟩
theorem Ap {s:GShow}(hok:aN s=true){i j:Nat}(hi:i<s.nodes.length)(hj:j<s.nodes.length)(h:s.nodes[i].watch=s.nodes[j].watch)(h0:s.nodes[i].watch≠0):i=j:=by
 have key:∀ {i j:Nat} (hi:i<s.nodes.length) (hj:j<s.nodes.length),s.nodes[i].watch=s.nodes[j].watch→s.nodes[j].watch≠0→¬ i<j:=by
  intro i j hi hj he hn hlt
  unfold aN eU at hok
  simp only [Bool.and_eq_true,decide_eq_true_eq] at hok
  have hp:=hok.1.1.1.1.2 j hj
  rw [tL hj,Bool.and_eq_true] at hp
  have hE:=hp.2
  unfold sU at hE
  rw [List.all_eq_true] at hE
  have:=hE s.nodes[i] (List.mem_take_iff_getElem.2 ⟨i,by omega,rfl⟩)
  simp only [Bool.and_eq_true,Bool.or_eq_true,Bool.not_eq_true',decide_eq_false_iff_not,decide_eq_true_eq] at this
  rcases this.2 with h1 | h1
  ·exact hn h1
  ·exact h1 he
 rcases Nat.lt_trichotomy i j with hlt | he | hlt
 ·exact absurd hlt (key hi hj h (by rw [← h];exact h0))
 ·exact he
 ·exact absurd hlt (key hj hi h.symm h0)
theorem Hf {s:GShow}(hok:aN s=true){i:Nat}(hi:i<s.nodes.length)(h0:s.nodes[i].watch≠0):fm s s.nodes[i].watch=(i:Int):=by
 unfold fm
 have h1:0≤aI s.nodes (fun n=>decide (n.watch=s.nodes[i].watch)):=by
  have:=lp (xs:=s.nodes) (q:=fun n=>decide (n.watch=s.nodes[i].watch))
  have h2:s.nodes.any (fun n=>decide (n.watch=s.nodes[i].watch))=true:=List.any_eq_true.2 ⟨_,List.getElem_mem hi,by simp⟩
  rw [h2] at this
  exact of_decide_eq_true this
 obtain ⟨j,hj,e,hq,_⟩:=gD h1
 rw [e,Ap hok hj hi (of_decide_eq_true hq) (by rw [of_decide_eq_true hq];exact h0)]
theorem lD {s:GShow}{i:Nat}(hi:i<s.nodes.length):vj s (i:Int)=s.nodes[i].watch:=by
 unfold vj
 rw [Int.toNat_natCast,List.getElem?_eq_getElem hi];rfl
def wl (s:GShow)(nodes:List Int):List Int:=(nodes.map (vj s)).filter (fun p=>!decide (p=0))
theorem wY (s:GShow)(nodes:List Int):Asc (aF s nodes):=by
 have:Asc [1,2,3]:=by unfold Asc;decide
 exact this.filter _
theorem JB {s:GShow}{x:GState}(hok:aN s=true){nodes:List Int}(ha:Asc nodes)(hn:∀ k,k∈nodes→k∈enL s x):(wl s nodes).Nodup∧∀ p,p∈wl s nodes↔p∈aF s nodes:=by
 constructor
 ·unfold wl
  rw [List.filter_map]
  unfold List.Nodup
  rw [List.pairwise_map]
  refine List.Pairwise.imp_of_mem ?_ (ha.filter _)
  intro a b h1 h2 hab he
  rw [List.mem_filter] at h1 h2
  obtain ⟨i,hi,rfl,_,_⟩:=ut (hn _ h1.1)
  obtain ⟨j,hj,rfl,_,_⟩:=ut (hn _ h2.1)
  have h3:=h1.2
  simp only [Function.comp,Bool.not_eq_true',decide_eq_false_iff_not] at h3
  rw [lD hi,lD hj] at he
  rw [lD hi] at h3
  have:=Ap hok hi hj he h3
  omega
 ·intro p
  unfold wl aF
  rw [List.mem_filter,List.mem_filter,List.mem_map]
  simp only [Bool.not_eq_true',decide_eq_false_iff_not,decide_eq_true_eq]
  constructor
  ·rintro ⟨⟨k,hk,rfl⟩,h0⟩
   obtain ⟨i,hi,rfl,_,_⟩:=ut (hn _ hk)
   rw [lD hi] at h0 ⊢
   have hw:=(Ao hok hi).2
   refine ⟨?_,?_⟩
   ·simp only [List.mem_cons,List.not_mem_nil,or_false];omega
   ·rw [Hf hok hi h0];exact hk
  ·rintro ⟨h3,hw⟩
   obtain ⟨i,hi,e,_,_⟩:=ut (hn _ hw)
   have h0:0≤fm s p:=by omega
   obtain ⟨j,hj,e2,hq,_⟩:=gD h0
   have hwp:=of_decide_eq_true hq
   unfold fm at hw
   rw [e2] at hw
   refine ⟨⟨(j:Int),hw,by rw [lD hj];exact hwp⟩,?_⟩
   simp only [List.mem_cons,List.not_mem_nil,or_false] at h3
   omega
theorem uu (s:GShow)(nodes:List Int):(aF s nodes).length≤3:=by
 have:=List.length_filter_le (fun p=>decide (fm s p∈nodes)) [1,2,3]
 simpa [aF] using this
theorem ck {s:GShow}{nodes:List Int}{p:Int}(h:p∈aF s nodes):1≤p∧p≤3∧fm s p∈nodes:=by
 unfold aF at h
 rw [List.mem_filter] at h
 simp only [List.mem_cons,List.not_mem_nil,or_false,decide_eq_true_eq] at h
 exact ⟨by omega,by omega,h.2⟩
theorem vI {s:GShow}{x:GState}(h:MomR s x){nodes:List Int}(ha:Asc nodes)(hl7:nodes.length≤7)(hn:∀ k,k∈nodes→k∈enL s x):fj s x nodes=some (decX x nodes,aF s nodes):=by
 have h7:=h.right.nodes
 have hln:=h.len
 have hv:=(bR h.val).1
 unfold fj
 rw [pR x (by omega) (by omega)]
 simp only [obnd]
 have key:aq (gp nodes ((nodes.length:Nat):Int) s.nodes s.ties s.horizon x.now x.times x.values x.now x.values) (((0:Nat):Int),wl s (nodes.take 0),bQ (fun k=>k) x.now (nodes.take 0) x.times)=some (wl s nodes,bQ (fun k=>k) x.now nodes x.times):=by
  refine aV nodes.length (fun i=>((i:Int),wl s (nodes.take i),bQ (fun k=>k) x.now (nodes.take i) x.times)) ?_ ?_
  ·intro i hi
   obtain ⟨j,hj,e,_,_⟩:=ut (hn _ (List.getElem_mem hi))
   have hwl:(wl s (nodes.take i)).length≤7:=by
    have:=List.length_filter_le (fun p=>!decide (p=0)) ((nodes.take i).map (vj s))
    rw [List.length_map,List.length_take] at this
    unfold wl;omega
   have hw1:wl s (nodes.take (i+1))=wl s (nodes.take i)++(if s.nodes[j].watch=0 then [] else [s.nodes[j].watch]):=by
    unfold wl
    rw [List.take_succ_eq_append_getElem hi,List.map_append,List.filter_append,e]
    simp only [List.map_cons,List.map_nil]
    rw [lD hj]
    by_cases h0:s.nodes[j].watch=0 <;> simp [h0]
   unfold gp
   simp only
   rw [if_pos (by omega),aB hi,e]
   simp only [obnd]
   rw [gb (ts:=bQ (fun k=>k) x.now (nodes.take i) x.times) (by omega) (by rw [dX];omega),aB hj,wr (x:=(i:Int)+1) (by omega) (by omega)]
   simp only
   rw [au (by omega),au (by omega),hw1,List.take_succ_eq_append_getElem hi,yg,e]
   by_cases h0:s.nodes[j].watch=0
   ·rw [if_pos h0,if_pos h0,List.append_nil];rfl
   ·rw [if_neg h0,if_neg h0];rfl
  ·unfold gp
   simp only
   rw [if_neg (by omega),List.take_length]
 rw [List.take_zero] at key
 change obnd (aq _ (((0:Nat):Int),wl s [],bQ (fun k=>k) x.now [] x.times)) _=_
 rw [key]
 simp only [obnd]
 have hwl:(wl s nodes).length≤7:=by
  have:=List.length_filter_le (fun p=>!decide (p=0)) (nodes.map (vj s))
  rw [List.length_map] at this
  unfold wl;omega
 obtain ⟨r,e,hp,hs⟩:=FQ (wl s nodes) (by omega)
 obtain ⟨w1,w2⟩:=JB h.ok ha hn
 have er:r=aF s nodes:=Bl (BR hs (hp.nodup_iff.2 w1)) (wY s nodes) (fun y=>by rw [hp.mem_iff,w2])
 rw [e]
 simp only
 rw [au hp.length_eq,er];rfl
def setV (ps vs v:List Int)(n:Nat):List Int:=(List.range n).foldl (fun v i=>v.set (ps.getD i 0 - 1).toNat (vs.getD i 0)) v
theorem oe (ps vs v:List Int)(n:Nat):setV ps vs v (n+1)=(setV ps vs v n).set (ps.getD n 0 - 1).toNat (vs.getD n 0):=by
 unfold setV
 rw [List.range_succ,List.foldl_append];rfl
theorem ng (ps vs v:List Int):∀ n,(setV ps vs v n).length=v.length
 | 0=>rfl
 | n+1=>by rw [oe,List.length_set,ng ps vs v n]
def obsX (x:GState)(ps vs:List Int):GState:=⟨x.now+1,x.times,setV ps vs x.values ps.length⟩
theorem uC (x:GState)(ps vs:List Int)(hn:0≤x.now∧x.now≤1000)(h1:x.times.length≤1048576)(h2:x.values.length=3)(hp:∀ p,p∈ps→1≤p∧p≤3)(hl:vs.length=ps.length)(hl2:ps.length≤1000) :
  dS x ps vs=some (obsX x ps vs)∧dn x ps vs=some (obsX x ps vs):=by
 have pb:∀ i,i<ps.length→1≤ps.getD i 0∧ps.getD i 0≤3:=by
  intro i hi
  rw [List.getD_eq_getElem?_getD,List.getElem?_eq_getElem hi]
  exact hp _ (List.getElem_mem hi)
 constructor
 ·unfold dS
  rw [pR x h1 (by omega)]
  simp only [obnd]
  have key:aq (fF vs ps ((ps.length:Nat):Int) x.now x.times) (((0:Nat):Int),setV ps vs x.values 0)=some (setV ps vs x.values ps.length):=by
   refine aV ps.length (fun i=>((i:Int),setV ps vs x.values i)) ?_ ?_
   ·intro i hi
    have hb:=pb i hi
    unfold fF
    simp only
    rw [if_pos (by omega),bk hi,bk (by omega),wr (x:=(i:Int)+1) (by omega) (by omega)]
    simp only [obnd]
    rw [wr (x:=ps.getD i 0 - 1) (by omega) (by omega),gb (ts:=setV ps vs x.values i) (by omega) (by rw [ng];omega)]
    simp only
    rw [oe];rfl
   ·unfold fF
    simp only
    rw [if_neg (by omega)]
  change obnd (aq _ (((0:Nat):Int),setV ps vs x.values 0)) _=_
  rw [key]
  simp only [obnd]
  rw [wr (by omega) (by omega)];rfl
 ·unfold dn
  rw [Hc x h1 (by omega)]
  simp only [obnd]
  have key:aq (eT vs ps ((ps.length:Nat):Int) x.now x.times) (((0:Nat):Int),setV ps vs x.values 0)=some (setV ps vs x.values ps.length):=by
   refine aV ps.length (fun i=>((i:Int),setV ps vs x.values i)) ?_ ?_
   ·intro i hi
    have hb:=pb i hi
    unfold eT
    simp only
    rw [if_pos (by omega),bk hi,bk (by omega),wr (x:=(i:Int)+1) (by omega) (by omega)]
    simp only [obnd]
    rw [wr (x:=ps.getD i 0 - 1) (by omega) (by omega),gb (ts:=setV ps vs x.values i) (by omega) (by rw [ng];omega)]
    simp only
    rw [oe];rfl
   ·unfold eT
    simp only
    rw [if_neg (by omega)]
  change obnd (aq _ (((0:Nat):Int),setV ps vs x.values 0)) _=_
  rw [key]
  simp only [obnd]
  rw [wr (by omega) (by omega)];rfl
theorem Br {ps vs v:List Int}(hv:v.length=3)(hp:∀ p,p∈ps→1≤p∧p≤3):∀ n,n≤ps.length→∀ k:Int,0≤k→(∀ i,i<n→ps.getD i 0 - 1≠k)→tm (setV ps vs v n) k=tm v k
 | 0,_,k,_,_=>rfl
 | n+1,hn,k,hk,h=>by
  rw [oe]
  have hb:=hp (ps.getD n 0) (by rw [List.getD_eq_getElem?_getD,List.getElem?_eq_getElem (show n<ps.length by omega)];exact List.getElem_mem _)
  rw [Ex _ _ _ _ (by omega) (by rw [ng];omega) hk,if_neg (fun e=>h n (by omega) e.symm)]
  exact Br hv hp n (by omega) k hk (fun i hi=>h i (by omega))
theorem FW {ps vs v:List Int}(hv:v.length=3)(hp:∀ p,p∈ps→1≤p∧p≤3)(hl:vs.length=ps.length):∀ n,n≤ps.length→∀ k:Int,0≤k→(∃ i,i<n∧ps.getD i 0 - 1=k)→tm (setV ps vs v n) k∈vs
 | 0,_,k,_,h=>by obtain ⟨i,hi,_⟩:=h;omega
 | n+1,hn,k,hk,h=>by
  rw [oe]
  have hb:=hp (ps.getD n 0) (by rw [List.getD_eq_getElem?_getD,List.getElem?_eq_getElem (show n<ps.length by omega)];exact List.getElem_mem _)
  rw [Ex _ _ _ _ (by omega) (by rw [ng];omega) hk]
  by_cases e:k=ps.getD n 0 - 1
  ·rw [if_pos e,List.getD_eq_getElem?_getD,List.getElem?_eq_getElem (show n<vs.length by omega)]
   exact List.getElem_mem _
  ·rw [if_neg e]
   obtain ⟨i,hi,he⟩:=h
   exact FW hv hp hl n (by omega) k hk ⟨i,by rcases Nat.lt_or_ge i n with h1 | h1;exact h1;exact absurd (by rw [← he,show i=n by omega]) e,he⟩
theorem Ez {ps vs v:List Int}{y:Int}:∀ n,y∈setV ps vs v n→y∈v∨∃ i,i<n∧y=vs.getD i 0
 | 0,h=>.inl h
 | n+1,h=>by
  rw [oe] at h
  rcases List.mem_or_eq_of_mem_set h with h | h
  ·rcases Ez n h with h | ⟨i,hi,h⟩
   ·exact .inl h
   ·exact .inr ⟨i,by omega,h⟩
  ·exact .inr ⟨n,by omega,h⟩
theorem Aq {s:GShow}{x:GState}(h:MomR s x){nodes:List Int}(hn:∀ k,k∈nodes→k∈enL s x){vs:List Int}(hl:vs.length=(aF s nodes).length)(hv:∀ v,v∈vs→v=1∨v=-1) :
  aD s (obsX (decX x nodes) (aF s nodes) vs)=true:=by
 have h7:=h.right.nodes
 have hln:=h.len
 obtain ⟨v1,v2⟩:=bR h.val
 have hnx:=h.nxt
 have hp:∀ p,p∈aF s nodes→1≤p∧p≤3:=fun p hp=>⟨(ck hp).1,(ck hp).2.1⟩
 have htm:∀ {i:Int},0≤i→tm (bQ (fun k=>k) x.now nodes x.times) i=if i∈nodes then x.now else tm x.times i:=by
  intro i hi
  rw [wU _ _ _ _ _ hi (fun k hk=>by obtain ⟨j,hj,e,_,_⟩:=ut (hn k hk);omega),List.map_id']
 unfold aD at hnx
 simp only [Bool.and_eq_true,decide_eq_true_eq] at hnx
 obtain ⟨⟨⟨⟨⟨a1,a2⟩,a3⟩,a4⟩,a5⟩,a6⟩:=hnx
 have hT:(obsX (decX x nodes) (aF s nodes) vs).times=bQ (fun k=>k) x.now nodes x.times:=rfl
 have hN:(obsX (decX x nodes) (aF s nodes) vs).now=x.now+1:=rfl
 have hV:(obsX (decX x nodes) (aF s nodes) vs).values=setV (aF s nodes) vs x.values (aF s nodes).length:=rfl
 unfold aD
 simp only [Bool.and_eq_true,decide_eq_true_eq]
 refine ⟨⟨⟨⟨⟨h.ok,?_⟩,?_⟩,?_⟩,?_⟩,?_⟩
 ·rw [hN];have:=h.now;omega
 ·rw [hT,dX];exact hln
 ·rw [hV]
  unfold dq
  rw [Bool.and_eq_true,decide_eq_true_eq,List.all_eq_true,ng]
  refine ⟨v1,?_⟩
  intro y hy
  rcases Ez _ hy with h1 | ⟨i,hi,rfl⟩
  ·exact decide_eq_true (v2 y h1)
  ·have:=hv (vs.getD i 0) (by rw [List.getD_eq_getElem?_getD,List.getElem?_eq_getElem (show i<vs.length by omega)];exact List.getElem_mem _)
   exact decide_eq_true (by omega)
 ·intro i hi
  rw [hT,dX] at hi
  have h5:=a5 i hi
  unfold pN at h5 ⊢
  rw [hT,hN]
  change (if i=0 then decide (tm x.times 0=0) else decide (-1≤tm x.times i∧tm x.times i≤x.now+1 - 1))=true at h5
  by_cases h0:i=0
  ·rw [if_pos h0] at h5 ⊢
   rw [htm (Int.le_refl 0),if_neg (fun hm=>by obtain ⟨j,_,e,hj,_⟩:=ut (hn _ hm);omega)]
   exact h5
  ·rw [if_neg h0] at h5 ⊢
   rw [decide_eq_true_eq] at h5 ⊢
   rw [htm (by omega)]
   have:=h.now
   split <;> omega
 ·intro i hi
  have h6:=a6 i hi
  unfold lc at h6 ⊢
  rw [hT,hV]
  change (decide (tm x.values i≠0) == (decide (0≤fm s ((i:Int)+1))&&decide (tm x.times (fm s ((i:Int)+1))≠-1)))=true at h6
  change (decide (tm (setV (aF s nodes) vs x.values (aF s nodes).length) i≠0) == (decide (0≤fm s ((i:Int)+1))&&decide (tm (bQ (fun k=>k) x.now nodes x.times) (fm s ((i:Int)+1))≠-1)))=true
  by_cases hw:0≤fm s ((i:Int)+1)
  ·rw [decide_eq_true hw,Bool.true_and,htm hw]
   rw [decide_eq_true hw,Bool.true_and] at h6
   by_cases hm:fm s ((i:Int)+1)∈nodes
   ·rw [if_pos hm,decide_eq_true (show x.now≠-1 by have:=h.now;omega)]
    have hpm:(i:Int)+1∈aF s nodes:=by
     unfold aF
     rw [List.mem_filter]
     unfold gr at hi
     refine ⟨?_,decide_eq_true hm⟩
     simp only [List.mem_cons,List.not_mem_nil,or_false]
     omega
    obtain ⟨j,hj,e⟩:=List.getElem_of_mem hpm
    have hin:=FW v1 hp hl _ (Nat.le_refl _) (i:Int) (by omega) ⟨j,hj,by rw [List.getD_eq_getElem?_getD,List.getElem?_eq_getElem hj,e,Option.getD_some];omega⟩
    have:=hv _ hin
    rw [decide_eq_true (show tm (setV (aF s nodes) vs x.values (aF s nodes).length) i≠0 by omega)];rfl
   ·rw [if_neg hm,Br v1 hp _ (Nat.le_refl _) _ (by omega)]
    ·exact h6
    ·intro j hj he
     refine hm ?_
     have:=(ck (s:=s) (nodes:=nodes) (p:=(aF s nodes).getD j 0) (by rw [List.getD_eq_getElem?_getD,List.getElem?_eq_getElem hj];exact List.getElem_mem _)).2.2
     rwa [show (aF s nodes).getD j 0=(i:Int)+1 by omega] at this
  ·rw [decide_eq_false hw] at h6 ⊢
   rw [Br v1 hp _ (Nat.le_refl _) _ (by omega)]
   ·simpa using h6
   ·intro j hj he
    have:=(ck (s:=s) (nodes:=nodes) (p:=(aF s nodes).getD j 0) (by rw [List.getD_eq_getElem?_getD,List.getElem?_eq_getElem hj];exact List.getElem_mem _)).2.2
    rw [show (aF s nodes).getD j 0=(i:Int)+1 by omega] at this
    obtain ⟨q,hq,e,_,_⟩:=ut (hn _ this)
    omega
end Go.Proofs.QA
set_option maxRecDepth 100000
namespace Go.Proofs.QA
open Go
def jC:GState:=⟨0,[],[]⟩
def sgn (x:Int):Int:=if x<0 then -1 else 1
def xx (s:GShow)(x:GState)(e:GEntry):Prop:=e.now=x.now∧e.ties∈dL s x∧bo e.values=true∧e.nodes∈decL s (endX s x e.ties)∧e.values.map pr=aF s e.nodes
noncomputable instance (s:GShow) (x:GState) (e:GEntry):Decidable (xx s x e):=Classical.propDecidable _
noncomputable def bV (s:GShow)(x:GState)(e:GEntry):GState × Bool:=
 if xx s x e then (obsX (decX (endX s x e.ties) e.nodes) (aF s e.nodes) (e.values.map sgn),true) else (jC,false)
theorem NO {x:Int}(h0:x≠0)(h1:-3≤x)(h2:x≤3):(0≤x→pr x=x)∧(x<0→pr x=0 - x)∧Int.tdiv x (pr x)=sgn x∧IntKind.wrap .i64 (Int.tdiv x (pr x))=sgn x:=by
 have key:∀ y:Int,y=-3∨y=-2∨y=-1∨y=1∨y=2∨y=3→(0≤y→pr y=y)∧(y<0→pr y=0 - y)∧Int.tdiv y (pr y)=sgn y∧IntKind.wrap .i64 (Int.tdiv y (pr y))=sgn y:=by
  intro y hy
  rcases hy with rfl | rfl | rfl | rfl | rfl | rfl <;> decide
 exact key x (by omega)
theorem EA {l:List Int}(h:bo l=true){x:Int}(hx:x∈l):x≠0∧-3≤x∧x≤3∧1≤pr x∧pr x≤3:=by
 obtain ⟨h1,h2,h3⟩:=ET h hx
 have h4:=Ey h2 h3
 refine ⟨?_,h2,h3,by omega,h4⟩
 rintro rfl
 have:pr 0=0:=rfl
 omega
theorem KO {l:List Int}(h:bo l=true)(hc:l.length≤1048576):l.length≤3:=by
 have hasc:Asc (l.map pr):=by
  unfold Asc
  rw [List.pairwise_iff_getElem]
  intro i j hi hj hij
  rw [List.length_map] at hi hj
  simp only [List.getElem_map]
  have hl:=h
  unfold bo at hl
  rw [decide_eq_true_eq] at hl
  have step:∀ n (hn:n+1<l.length),pr (l[n]'(by omega))<pr l[n+1]:=by
   intro n hn
   have:=hl (n+1) hn
   unfold labP at this
   rw [decide_eq_true_eq] at this
   have:=this.2.2.2 (by omega)
   rw [List.getD_eq_getElem?_getD,List.getD_eq_getElem?_getD,show n+1 - 1=n by omega,List.getElem?_eq_getElem (by omega),List.getElem?_eq_getElem hn] at this
   exact this
  have mono:∀ k,∀ hk:i+k+1<l.length,pr (l[i]'(by omega))<pr l[i+k+1]:=by
   intro k
   induction k with
   | zero=>intro hk;exact step i hk
   | succ k ih=>
    intro hk
    have h1:=ih (by omega)
    have h2:=step (i+k+1) hk
    show pr l[i]<pr l[i+k+1+1]
    omega
  have:=mono (j - i - 1) (by omega)
  have e:i+(j - i - 1)+1=j:=by omega
  simp only [e] at this
  exact this
 have:=un (r:=[1,2,3]) hasc.nodup (fun y hy=>by
  rw [List.mem_map] at hy
  obtain ⟨x,hx,rfl⟩:=hy
  obtain ⟨_,_,_,h1,h2⟩:=EA h hx
  simp only [List.mem_cons,List.not_mem_nil,or_false]
  omega)
 simpa using this
theorem uD {s:GShow}{x:GState}(h:aD s x=true):aN s=true∧x.values.length=3∧x.times.length≤7:=by
 have hR:=eF h
 have hl:=hR.len
 have h7:=hR.right.nodes
 unfold aD at h
 simp only [Bool.and_eq_true] at h
 exact ⟨h.1.1.1.1.1,(bR h.1.1.2).1,by omega⟩
theorem Hg {s:GShow}{x:GState}{e:GEntry}(hs:bw s)(hx:aD s x=true)(he:FitE e):kU s x e=some (bV s x e):=by
 obtain ⟨hok,hv3,ht7⟩:=uD hx
 have e1:=he.ties
 have e2:=he.nodes
 have e3:=he.values
 have hel:=wT hok (x:=x)
 unfold kU
 have no:¬ xx s x e→some ((GState.mk 0 ([]) ([])),false)=some (bV s x e):=fun h=>by unfold bV;rw [if_neg h];rfl
 by_cases h1:e.now=x.now
 ·rw [if_pos h1,vG hx]
  simp only [obnd]
  rw [yL _ _ (by unfold Cnt;omega) (by unfold Cnt;omega)]
  simp only
  by_cases h2:e.ties∈dL s x
  ·rw [if_pos (decide_eq_true h2),lj _ (by unfold Cnt;omega)]
   simp only
   obtain ⟨a1,a2,a3⟩:=tF hok h2
   have hm:=wX (yN hx a1 a3)
   by_cases h3:bo e.values=true
   ·rw [if_pos h3,yM hx (by omega) (by omega) a3]
    simp only
    rw [tG hs hm]
    simp only
    have hdl:=vH hm.right (endX s x e.ties)
    rw [yL _ _ (by unfold Cnt;omega) (by unfold Cnt;omega)]
    simp only
    by_cases h4:e.nodes∈decL s (endX s x e.ties)
    ·rw [if_pos (decide_eq_true h4)]
     obtain ⟨b1,b2,b3⟩:=lf hm.right h4
     rw [vI hm b1 b2 b3]
     simp only
     have hl3:=KO h3 e3
     have key:aq (iK e.values ((e.values.length:Nat):Int) (decX (endX s x e.ties) e.nodes).now (decX (endX s x e.ties) e.nodes).times (decX (endX s x e.ties) e.nodes).values (aF s e.nodes)) (((0:Nat):Int),(e.values.take 0).map pr,(e.values.take 0).map sgn)=some (e.values.map pr,e.values.map sgn):=by
      refine aV e.values.length (fun i=>((i:Int),(e.values.take i).map pr,(e.values.take i).map sgn)) ?_ ?_
      ·intro i hi
       obtain ⟨v1,v2,v3,v4,v5⟩:=EA h3 (List.getElem_mem hi)
       obtain ⟨_,_,_,w4⟩:=NO v1 v2 v3
       unfold iK
       simp only
       rw [if_pos (by omega),aB hi]
       simp only [obnd]
       rw [rM]
       simp only
       rw [au (by rw [List.length_map,List.length_take];omega),au (by rw [List.length_map,List.length_take];omega),au (by omega),au (by rw [List.length_map,List.length_take];omega),au (by rw [List.length_map,List.length_take];omega),wr (x:=(i:Int)+1) (by omega) (by omega),w4,List.take_succ_eq_append_getElem hi,List.map_append,List.map_append];rfl
      ·unfold iK
       simp only
       rw [if_neg (by omega),List.take_length]
     simp only [List.take_zero,List.map_nil,Int.natCast_zero] at key
     rw [key]
     simp only
     rw [rO _ _ (by unfold Cnt;rw [List.length_map];omega)]
     simp only
     by_cases h5:e.values.map pr=aF s e.nodes
     ·rw [if_pos (decide_eq_true h5)]
      have hnow:=hm.now
      have hh:=hm.right.hor
      have hpl:=uu s e.nodes
      have hn:0≤(decX (endX s x e.ties) e.nodes).now∧(decX (endX s x e.ties) e.nodes).now≤1000:=by
       show 0≤(endX s x e.ties).now∧(endX s x e.ties).now≤1000
       omega
      have hobs:=(uC (decX (endX s x e.ties) e.nodes) (aF s e.nodes) (e.values.map sgn) hn (by show (bQ _ _ _ (bQ _ _ _ _)).length≤_;rw [dX,dX];omega) hv3 (fun p hp=>⟨(ck hp).1,(ck hp).2.1⟩) (by rw [← h5,List.length_map,List.length_map]) (by omega)).1
      rw [hobs]
      simp only
      unfold bV
      rw [if_pos ⟨h1,h2,h3,h4,h5⟩]
     ·rw [if_neg (by rw [decide_eq_false h5];simp)]
      exact no (fun h=>h5 h.2.2.2.2)
    ·rw [if_neg (by rw [decide_eq_false h4];simp)]
     exact no (fun h=>h4 h.2.2.2.1)
   ·rw [if_neg h3]
    exact no (fun h=>h3 h.2.2.1)
  ·rw [if_neg (by rw [decide_eq_false h2];simp)]
   exact no (fun h=>h2 h.2.1)
 ·rw [if_neg h1]
  exact no (fun h=>h1 h.1)
theorem FX {s:GShow}{x:GState}{e:GEntry}(hx:aD s x=true)(h:(bV s x e).2=true):aD s (bV s x e).1=true:=by
 obtain ⟨hok,hv3,ht7⟩:=uD hx
 unfold bV at h ⊢
 by_cases he:xx s x e
 ·rw [if_pos he]
  obtain ⟨h1,h2,h3,h4,h5⟩:=he
  obtain ⟨a1,a2,a3⟩:=tF hok h2
  have hm:=wX (yN hx a1 a3)
  obtain ⟨b1,b2,b3⟩:=lf hm.right h4
  refine Aq hm b3 (by rw [← h5,List.length_map,List.length_map]) ?_
  intro v hv
  rw [List.mem_map] at hv
  obtain ⟨y,_,rfl⟩:=hv
  unfold sgn
  split
  ·exact .inr rfl
  ·exact .inl rfl
 ·rw [if_neg he] at h;cases h
noncomputable def ba (s:GShow):GState→List GEntry→GState × Bool
 | x,[]=>(x,true)
 | x,e::r=>if (bV s x e).2=true then ba s (bV s x e).1 r else (jC,false)
noncomputable def cT (s:GShow)(log:List GEntry):GState × Bool:=if aN s=true then ba s (gQ s) log else (jC,false)
theorem BV {s:GShow}:∀ (log:List GEntry) (x:GState),aD s x=true→(ba s x log).2=true→aD s (ba s x log).1=true
 | [],x,hx,_=>hx
 | e::r,x,hx,h=>by
  unfold ba at h ⊢
  by_cases he:(bV s x e).2=true
  ·rw [if_pos he] at h ⊢
   exact BV r _ (FX hx he) h
  ·rw [if_neg he] at h;cases h
theorem wZ {s:GShow}:∀ (log:List GEntry) (x:GState),(ba s x log).2=false→ba s x log=(jC,false)
 | [],x,h=>by cases h
 | e::r,x,h=>by
  unfold ba at h ⊢
  by_cases he:(bV s x e).2=true
  ·rw [if_pos he] at h ⊢
   exact wZ r _ h
  ·rw [if_neg he]
theorem yP {s:GShow}(h:aN s=true):aD s (gQ s)=true:=by
 have hR:=dh h
 have h1:=hR.node1
 have hh:=hR.hor
 have hl:(gQ s).times.length=s.nodes.length:=vg _
 have htm:∀ i:Nat,i<s.nodes.length→tm (gQ s).times (i:Int)=if i=0 then 0 else -1:=by
  have key:∀ n i:Nat,i<n→(stL n)[i]?=some (if i=0 then 0 else -1):=by
   intro n
   induction n with
   | zero=>intro i hi;omega
   | succ n ih=>
    intro i hi
    cases n with
    | zero=>
     obtain rfl:i=0:=by omega
     rfl
    | succ n=>
     rw [Jv]
     by_cases hlt:i<n+1
     ·rw [List.getElem?_append_left (by rw [vg];exact hlt)]
      exact ih i hlt
     ·obtain rfl:i=n+1:=by omega
      rw [List.getElem?_append_right (by rw [vg];exact Nat.le_refl _),vg,Nat.sub_self,if_neg (by omega)];rfl
  intro i hi
  unfold tm
  rw [Int.toNat_natCast,show (gQ s).times=stL s.nodes.length from rfl,key _ i hi];rfl
 unfold aD
 simp only [Bool.and_eq_true,decide_eq_true_eq]
 refine ⟨⟨⟨⟨⟨h,?_⟩,hl⟩,?_⟩,?_⟩,?_⟩
 ·show 0≤(0:Int)∧(0:Int)≤s.horizon+1;omega
 ·show dq [0,0,0]=true;decide
 ·intro i hi
  unfold pN
  have e:=htm i (by omega)
  by_cases h0:i=0
  ·subst h0
   rw [if_pos rfl]
   rw [if_pos rfl] at e
   exact decide_eq_true e
  ·rw [if_neg h0]
   rw [if_neg h0] at e
   rw [e]
   exact decide_eq_true ⟨by omega,by show (-1:Int)≤0 - 1;omega⟩
 ·intro i hi
  unfold lc
  have ev:tm (gQ s).values (i:Int)=0:=by
   unfold gr at hi
   have:i=0∨i=1∨i=2:=by omega
   rcases this with rfl | rfl | rfl <;> rfl
  rw [ev]
  by_cases hw:0≤aI s.nodes (fun n=>decide (n.watch=(i:Int)+1))
  ·obtain ⟨j,hj,e,hq,_⟩:=gD hw
   have hj0:j≠0:=by
    rintro rfl
    have hf:=h
    unfold aN eU at hf
    simp only [Bool.and_eq_true] at hf
    have hf:=hf.1.1.1.1.1.2
    unfold sV at hf
    rw [List.getElem?_eq_getElem hj] at hf
    simp only [Option.any_some,Bool.and_eq_true,decide_eq_true_eq] at hf
    have:=of_decide_eq_true hq
    omega
   rw [e,htm j hj,if_neg hj0]
   simp
  ·rw [decide_eq_false hw];simp
theorem Fx {s:GShow}(log:List GEntry)(hl:log.length≤1048576)(body:(Int × Int × (List Int) × (List Int))→Option (Step (Int × Int × (List Int) × (List Int)) (Sum (Int × (List Int) × (List Int)) (GState × Bool))))
  (h1:∀ (i:Nat) (hi:i<log.length) (x:GState),aD s x=true→body ((i:Int),x.now,x.times,x.values)=(if (bV s x log[i]).2=true then some (.next (((i+1:Nat):Int),(bV s x log[i]).1.now,(bV s x log[i]).1.times,(bV s x log[i]).1.values)) else some (.done (.inr (jC,false)))))
  (h2:∀ x:GState,body ((log.length:Nat),x.now,x.times,x.values)=some (.done (.inl (x.now,x.times,x.values)))) :
  ∀ (n i:Nat),i+n=log.length→∀ x,aD s x=true→aq body ((i:Int),x.now,x.times,x.values)=some (if (ba s x (log.drop i)).2=true then .inl ((ba s x (log.drop i)).1.now,(ba s x (log.drop i)).1.times,(ba s x (log.drop i)).1.values) else .inr (jC,false)):=by
 intro n
 induction n with
 | zero=>
  intro i hi x hx
  obtain rfl:i=log.length:=by omega
  rw [aQ,h2,List.drop_length]
  rfl
 | succ n ih=>
  intro i hi x hx
  have hi':i<log.length:=by omega
  rw [aQ,h1 i hi' x hx,List.drop_eq_getElem_cons hi']
  by_cases he:(bV s x log[i]).2=true
  ·rw [if_pos he]
   simp only
   rw [ih (i+1) (by omega) _ (FX hx he)]
   simp only [ba,if_pos he]
  ·rw [if_neg he]
   simp only [ba,if_neg he]
   rfl
theorem Bs (s:GShow)(log:List GEntry)(hf:FitS s)(hl:log.length≤1048576)(he:∀ e,e∈log→FitE e):hZ s log=some (cT s log):=by
 have hs:=hf.small
 unfold hZ cT
 rw [re s hs]
 simp only [obnd]
 by_cases hok:aN s=true
 ·rw [if_pos hok,if_pos hok,um s hs hok]
  simp only
  have hst:=yP hok
  have key:=Fx (s:=s) log hl (eP log ((log.length:Nat):Int) s.nodes s.ties s.horizon) ?_ ?_ log.length 0 (by omega) (gQ s) hst
  ·rw [List.drop_zero] at key
   rw [show (0:Int)=((0:Nat):Int) from rfl,key]
   cases h2:(ba s (gQ s) log).2
   ·rw [if_neg (by simp)]
    simp only
    rw [wZ _ _ h2]
   ·rw [if_pos rfl]
    simp only
    generalize hr:ba s (gQ s) log=q at h2
    obtain ⟨y,b⟩:=q
    simp only at h2
    subst h2
    rfl
  ·intro i hi x hx
   unfold eP
   simp only
   rw [if_pos (by omega),aB hi,wr (x:=(i:Int)+1) (by omega) (by omega)]
   simp only [obnd]
   rw [show (GShow.mk s.nodes s.ties s.horizon)=s from rfl,show (GState.mk x.now x.times x.values)=x from rfl,Hg hs hx (he _ (List.getElem_mem hi))]
   rfl
  ·intro x
   unfold eP
   simp only
   rw [if_neg (by omega)]
 ·rw [if_neg hok,if_neg hok];rfl
end Go.Proofs.QA
set_option maxRecDepth 100000
namespace Go.Proofs.QA
open Go
theorem EB {s:GShow}(log:List GEntry):((cT s log).2=true∧aD s (cT s log).1=true)∨cT s log=(jC,false):=by
 unfold cT
 by_cases h:aN s=true
 ·rw [if_pos h]
  cases h2:(ba s (gQ s) log).2
  ·exact .inr (wZ _ _ h2)
  ·exact .inl ⟨rfl,BV _ _ (yP h) h2⟩
 ·rw [if_neg h];exact .inr rfl
theorem Hi (s:GShow)(log:List GEntry):FitX (cT s log).1:=by
 rcases EB (s:=s) log with ⟨_,h⟩ | h
 ·obtain ⟨_,h2,h3⟩:=uD h
  exact ⟨by omega,by omega⟩
 ·rw [h];exact ⟨by simp [jC],by simp [jC]⟩
noncomputable def cQ (d:GDesk):Bool:=aD d.show_ d.state&&decide ((d.log.length:Int)=d.state.now)&&(cT d.show_ d.log).2&&decide ((cT d.show_ d.log).1=d.state)
theorem rb (d:GDesk)(h:FitD d):eA d=some (cQ d):=by
 have x1:=h.st.times
 have x2:=h.st.values
 unfold eA cQ
 rw [wP _ _ h.sh.small x1 x2]
 simp only [obnd]
 cases aD d.show_ d.state
 ·rfl
 ·rw [if_pos rfl]
  by_cases hn:(d.log.length:Int)=d.state.now
  ·rw [if_pos hn,Bs _ _ h.sh h.log h.entry,decide_eq_true hn]
   simp only
   cases hr:(cT d.show_ d.log).2
   ·rfl
   ·rw [if_pos rfl,Ah _ _ (Hi _ _)];rfl
  ·rw [if_neg hn,decide_eq_false hn];rfl
end Go.Proofs.QA
set_option maxRecDepth 100000
namespace Go.Proofs.QA
open Go
structure StR (s:GShow) (x:GState):Prop where
 ok:aN s=true
 right:qZ s
 len:x.times.length=s.nodes.length
 val:dq x.values=true
 now:0≤x.now∧x.now≤s.horizon+1
 all:∀ i:Int,0≤i→i<s.nodes.length→-1≤tm x.times i∧tm x.times i≤11
theorem cU {s:GShow}{x:GState}(h:aD s x=true):StR s x:=by
 have hR:=eF h
 have h2:=h
 unfold aD at h2
 simp only [Bool.and_eq_true,decide_eq_true_eq] at h2
 obtain ⟨⟨⟨⟨⟨a1,a2⟩,a3⟩,a4⟩,a5⟩,a6⟩:=h2
 exact ⟨a1,hR.right,a3,a4,a2,hR.all⟩
def late (s:GShow)(x:GState)(t:GTie):Bool:=
 if tm x.times t.from_=-1 then (if t.free=true then false else (if tm x.times t.to=-1 then false else decide (kH (mN s t.from_.toNat) x.values=1)&&decide (tm x.times t.to - x.now<t.low)))
 else if tm x.times t.to=-1 then (if t.free=true then false else decide (kH (mN s t.to.toNat) x.values=1)&&decide (t.high<x.now - tm x.times t.from_))
 else decide (tm x.times t.to - tm x.times t.from_<t.low) || decide (t.high<tm x.times t.to - tm x.times t.from_)
def Ar (s:GShow)(x:GState)(i:Nat):Bool:=!(decide (tm x.times (i:Int)=-1) && !decide (kH (mN s i) x.values=-1))
def sM (s:GShow)(x:GState):Bool:=(List.range s.nodes.length).all (Ar s x)
def og (s:GShow)(x:GState):Bool:=s.ties.any (late s x) || (decide (s.horizon<x.now) && !sM s x)
theorem Iw {n:Nat}{p:Nat→Bool}:(List.range n).all p=decide (∀ i,i<n→p i=true):=by
 rw [Bool.eq_iff_iff,List.all_eq_true,decide_eq_true_eq]
 exact ⟨fun h i hi=>h i (List.mem_range.2 hi),fun h i hi=>h i (List.mem_range.1 hi)⟩
theorem Hj {s:GShow}{x:GState}(hs:bw s)(h:StR s x){k:Int}(h0:0≤k)(h1:k<s.nodes.length):∃ b,getI s.nodes k=some b∧eo b.label x.values=some (kH (mN s k.toNat) x.values)∧bH b.label x.values=some (kH (mN s k.toNat) x.values):=by
 have hi:k.toNat<s.nodes.length:=by omega
 refine ⟨s.nodes[k.toNat],?_,?_,?_⟩
 ·have:=aB hi
  rwa [show ((k.toNat:Nat):Int)=k by omega] at this
 ·rw [uq (Ao h.ok hi).1 h.val (hs.node _ (List.getElem_mem hi)).2,yO hi]
 ·rw [Fw (Ao h.ok hi).1 h.val (hs.node _ (List.getElem_mem hi)).2,yO hi]
theorem pS {s:GShow}{x:GState}(hs:bw s)(h:StR s x){k:Int}(h0:0≤k)(h1:k<s.nodes.length):bZ s x k=some (kH (mN s k.toNat) x.values):=by
 obtain ⟨b,e1,e2,_⟩:=Hj hs h h0 h1
 unfold bZ
 rw [e1]
 simp only [obnd]
 rw [e2]
theorem Bt {s:GShow}{x:GState}(hs:bw s)(h:StR s x){t:GTie}(ht:t∈s.ties):fH s x t=some (late s x t):=by
 have hT:=h.right.tie t ht
 have hln:=h.len
 have hn:=h.now
 have hh:=h.right.hor
 have b1:=h.all _ hT.f0 hT.f1
 have b2:=h.all _ hT.t0 hT.t1
 unfold fH late
 rw [gb hT.f0 (by have:=hT.f1;omega),gb hT.t0 (by have:=hT.t1;omega)]
 simp only [obnd]
 by_cases hf:tm x.times t.from_=-1
 ·rw [if_pos hf,if_pos hf]
  cases t.free
  ·simp only [Bool.false_eq_true,if_false]
   by_cases h2:tm x.times t.to=-1
   ·rw [if_pos h2,if_pos h2]
   ·rw [if_neg h2,if_neg h2,pS hs h hT.f0 hT.f1,wr (by omega) (by omega)]
    simp only
    by_cases h3:kH (mN s t.from_.toNat) x.values=1
    ·rw [if_pos h3,decide_eq_true h3];rfl
    ·rw [if_neg h3,decide_eq_false h3];rfl
  ·simp only [if_true]
 ·rw [if_neg hf,if_neg hf]
  by_cases h2:tm x.times t.to=-1
  ·rw [if_pos h2,if_pos h2]
   cases t.free
   ·simp only [Bool.false_eq_true,if_false]
    rw [pS hs h hT.t0 hT.t1,wr (by omega) (by omega)]
    simp only
    by_cases h3:kH (mN s t.to.toNat) x.values=1
    ·rw [if_pos h3,decide_eq_true h3];rfl
    ·rw [if_neg h3,decide_eq_false h3];rfl
   ·simp only [if_true]
  ·rw [if_neg h2,if_neg h2,wr (by omega) (by omega)]
   by_cases h3:tm x.times t.to - tm x.times t.from_<t.low
   ·rw [if_pos h3,decide_eq_true h3];rfl
   ·rw [if_neg h3,decide_eq_false h3];rfl
theorem vJ {s:GShow}{x:GState}(hs:bw s)(h:StR s x):fk s x=some (sM s x):=by
 have hln:=h.len
 have h7:=h.right.nodes
 unfold fk sM
 have key:=cj (body:=ep x.times ((x.times.length:Nat):Int) s.nodes s.ties s.horizon x.now x.values) x.times.length (fun i=>(i:Int)) (Ar s x) (rT:=.inl ()) (rF:=.inr false) ?_ ?_ ?_
 ·rw [show ((0:Nat):Int)=0 from rfl] at key
  rw [key,Iw,← hln]
  simp only [obnd]
  split
  ·rename_i q he
   split at he
   ·rename_i hp;rw [decide_eq_true hp]
   ·cases he
  ·rename_i q he
   split at he
   ·cases he
   ·rename_i hp;cases he;rw [decide_eq_false hp]
 ·intro i hi hp
  unfold ep
  try simp only
  rw [if_pos (by omega),tE hi]
  simp only [obnd]
  unfold Ar at hp
  by_cases ht:tm x.times (i:Int)=-1
  ·rw [if_pos ht,show (GShow.mk s.nodes s.ties s.horizon)=s from rfl,show (GState.mk x.now x.times x.values)=x from rfl,pS hs h (by omega) (by omega),Int.toNat_natCast]
   simp only
   rw [decide_eq_true ht] at hp
   rw [if_pos (by simpa using hp),wr (by omega) (by omega)];rfl
  ·rw [if_neg ht,wr (by omega) (by omega)];rfl
 ·intro i hi hp
  unfold ep
  try simp only
  rw [if_pos (by omega),tE hi]
  simp only [obnd]
  unfold Ar at hp
  simp only [Bool.not_eq_false',Bool.and_eq_true,decide_eq_true_eq,Bool.not_eq_true',decide_eq_false_iff_not] at hp
  rw [if_pos hp.1,show (GShow.mk s.nodes s.ties s.horizon)=s from rfl,show (GState.mk x.now x.times x.values)=x from rfl,pS hs h (by omega) (by omega),Int.toNat_natCast]
  simp only
  rw [if_neg hp.2]
 ·unfold ep
  try simp only
  rw [if_neg (by omega)]
theorem yh {s:GShow}{x:GState}(hs:bw s)(h:StR s x):fZ s x=some (og s x):=by
 unfold fZ og
 rw [tJ s.ties _ (late s x) hs.ties]
 ·simp only [obnd]
  cases s.ties.any (late s x)
  ·rw [if_neg (by simp)]
   by_cases hh:s.horizon<x.now
   ·rw [if_pos hh,vJ hs h,decide_eq_true hh];rfl
   ·rw [if_neg hh,decide_eq_false hh];rfl
  ·rw [if_pos rfl];rfl
 ·intro t ht
  unfold iL
  rw [Bt hs h ht];rfl
end Go.Proofs.QA
set_option maxRecDepth 100000
namespace Go.Proofs.QA
open Go
def bitV (n:Int)(i:Nat):Int:=IntKind.wrap .i64 (1 - (IntKind.wrap .i64 (2*(IntKind.wrap .i64 (((BitVec.ofInt (IntKind.bits .i64) (Int.fdiv n (2^(min i 64))) &&& BitVec.ofInt (IntKind.bits .i64) 1).toNat:Nat):Int)))))
theorem KQ (n:Int)(i:Nat):bitV n i=1∨bitV n i=-1:=by
 unfold bitV
 have h:∀ b:BitVec 64,(b &&& BitVec.ofInt 64 1).toNat=0∨(b &&& BitVec.ofInt 64 1).toNat=1:=by
  intro b
  rw [BitVec.toNat_and]
  have:(BitVec.ofInt 64 1).toNat=1:=by decide
  rw [this,Nat.and_one_is_mod]
  omega
 have:=h (BitVec.ofInt (IntKind.bits .i64) (Int.fdiv n (2^(min i 64))))
 rcases this with h | h
 ·left
  change IntKind.wrap .i64 (1 - (IntKind.wrap .i64 (2*(IntKind.wrap .i64 (((BitVec.ofInt 64 (Int.fdiv n (2^(min i 64))) &&& BitVec.ofInt 64 1).toNat:Nat):Int)))))=1
  change (BitVec.ofInt 64 (Int.fdiv n (2^(min i 64))) &&& BitVec.ofInt 64 1).toNat=0 at h
  rw [h];decide
 ·right
  change IntKind.wrap .i64 (1 - (IntKind.wrap .i64 (2*(IntKind.wrap .i64 (((BitVec.ofInt 64 (Int.fdiv n (2^(min i 64))) &&& BitVec.ofInt 64 1).toNat:Nat):Int)))))=-1
  change (BitVec.ofInt 64 (Int.fdiv n (2^(min i 64))) &&& BitVec.ofInt 64 1).toNat=1 at h
  rw [h];decide
def vK (m n:Nat):List Int:=(List.range m).map (bitV (n:Int))
def obsL (ps:List Int):List (List Int):=(List.range (2^ps.length)).map (vK ps.length)
theorem As {ps vs:List Int}(h:vs∈obsL ps):vs.length=ps.length∧∀ v,v∈vs→v=1∨v=-1:=by
 unfold obsL at h
 rw [List.mem_map] at h
 obtain ⟨n,_,rfl⟩:=h
 unfold vK
 refine ⟨by simp,fun v hv=>?_⟩
 rw [List.mem_map] at hv
 obtain ⟨i,_,rfl⟩:=hv
 exact KQ _ _
theorem JC {ps:List Int}(h:ps.length≤7):(obsL ps).length≤128:=by
 unfold obsL
 simpa using vF h
theorem EC {ps:List Int}(h:Asc ps){i:Nat}(hi:i<ps.length)(h0:0<i):ps.getD (i - 1) 0<ps.getD i 0:=by
 unfold Asc at h
 rw [List.pairwise_iff_getElem] at h
 have:=h (i - 1) i (by omega) hi (by omega)
 rw [List.getD_eq_getElem?_getD,List.getD_eq_getElem?_getD,List.getElem?_eq_getElem hi,List.getElem?_eq_getElem (show i - 1<ps.length by omega)]
 exact this
theorem wo {ps:List Int}(ha:Asc ps)(hp:∀ p,p∈ps→1≤p∧p≤3)(hl:ps.length≤3):dH ps=some (obsL ps):=by
 have pb:∀ i,i<ps.length→1≤ps.getD i 0∧ps.getD i 0≤3:=by
  intro i hi
  rw [List.getD_eq_getElem?_getD,List.getElem?_eq_getElem hi]
  exact hp _ (List.getElem_mem hi)
 have hpow:=vF (m:=ps.length) (by omega)
 unfold dH
 have k1:aq (cA ps ((ps.length:Nat):Int)) ((0:Nat):Int)=some (.inl ()):=by
  refine aV ps.length (fun i=>(i:Int)) ?_ ?_
  ·intro i hi
   have hb:=pb i hi
   unfold cA
   try simp only
   rw [if_pos (by omega),bk hi]
   simp only [obnd]
   rw [if_neg (by omega),if_neg (by omega),wr (x:=(i:Int)+1) (by omega) (by omega)]
   by_cases h0:0<i
   ·rw [if_pos (by omega),wr (by omega) (by omega),show (i:Int) - 1=((i - 1:Nat):Int) by omega,bk (by omega)]
    simp only
    have:=EC ha hi h0
    rw [if_neg (by omega)];rfl
   ·rw [if_neg (by omega)];rfl
  ·unfold cA
   try simp only
   rw [if_neg (by omega)]
 have k4:∀ (n:Nat) (out:List (List Int)),aq (cB ps (n:Int) ((ps.length:Nat):Int) out) (((0:Nat):Int),(List.range 0).map (bitV (n:Int)))=some (vK ps.length n):=by
  intro n out
  unfold vK
  refine aV ps.length (fun i=>((i:Int),(List.range i).map (bitV (n:Int)))) ?_ ?_
  ·intro i hi
   unfold cB
   try simp only
   rw [if_pos (by omega),au (by omega),au (by simp;omega),au (by simp;omega),wr (x:=(i:Int)+1) (by omega) (by omega),lC,Int.toNat_natCast];rfl
  ·unfold cB
   try simp only
   rw [if_neg (by omega)]
 have k5:aq (cC ps) (((0:Nat):Int),(List.range 0).map (vK ps.length))=some (obsL ps):=by
  unfold obsL
  refine aV (2^ps.length) (fun i=>((i:Int),(List.range i).map (vK ps.length))) ?_ ?_
  ·intro i hi
   have k:=k4 i ((List.range i).map (vK ps.length))
   simp only [List.range_zero,List.map_nil,Int.natCast_zero] at k
   unfold cC
   try simp only
   rw [au (by omega),wS (by omega),if_pos (by omega),k]
   simp only [obnd]
   rw [au (by simp;omega),au (by simp;omega),wr (x:=(i:Int)+1) (by omega) (by omega),lC];rfl
  ·unfold cC
   try simp only
   rw [au (by omega),wS (by omega),if_neg (by omega)]
 simp only [Int.natCast_zero] at k1
 simp only [List.range_zero,List.map_nil,Int.natCast_zero] at k5
 rw [k1]
 simp only [obnd]
 rw [k5]
theorem wr8 {x:Int}(h1:0≤x)(h2:x≤255):IntKind.wrap .u8 x=x:=by
 unfold IntKind.wrap
 simp [IntKind.bits,IntKind.signed]
 omega
def keyL (x:GState):List Int:=[x.now]++x.times.map (fun n=>n+1)++x.values.map (fun n=>n+1)
def keyS (x:GState):ByteArray:=ku (keyL x)
theorem Hk (ns:List Int):(ku ns).data.toList=ns.map (fun n=>UInt8.ofNat n.toNat):=by
 unfold ku
 have key:∀ (ns:List Int) (a:ByteArray),(ns.foldl (fun r n=>r.push (UInt8.ofNat n.toNat)) a).data.toList=a.data.toList++ns.map (fun n=>UInt8.ofNat n.toNat):=by
  intro ns
  induction ns with
  | nil=>intro a;simp
  | cons n ns ih=>
   intro a
   simp only [List.foldl_cons,ih,List.map_cons]
   simp [ByteArray.push]
 rw [key]
 rfl
theorem KR {xs ys:List Int}(hx:∀ n,n∈xs→0≤n∧n≤255)(hy:∀ n,n∈ys→0≤n∧n≤255)(h:xs.map (fun n=>UInt8.ofNat n.toNat)=ys.map (fun n=>UInt8.ofNat n.toNat)):xs=ys:=by
 induction xs generalizing ys with
 | nil=>cases ys with
  | nil=>rfl
  | cons y ys=>simp at h
 | cons x xs ih=>cases ys with
  | nil=>simp at h
  | cons y ys=>
   simp only [List.map_cons,List.cons.injEq] at h
   have h1:=hx x (by simp)
   have h2:=hy y (by simp)
   have h3:=congrArg UInt8.toNat h.1
   simp only [UInt8.toNat_ofNat'] at h3
   have:x=y:=by omega
   rw [this,ih (fun n hn=>hx n (by simp [hn])) (fun n hn=>hy n (by simp [hn])) h.2]
theorem KS {ts:List Int}{n:Int}(h:n∈ts):∃ i,i<ts.length∧n=tm ts (i:Int):=by
 obtain ⟨i,hi,rfl⟩:=List.getElem_of_mem h
 refine ⟨i,hi,?_⟩
 unfold tm
 rw [Int.toNat_natCast,List.getElem?_eq_getElem hi];rfl
theorem ED {s:GShow}{x:GState}(h:StR s x):(∀ n,n∈x.times→-1≤n∧n≤11)∧(∀ n,n∈x.values→-1≤n∧n≤1)∧∀ n,n∈keyL x→0≤n∧n≤255:=by
 have hn:=h.now
 have hh:=h.right.hor
 have ht:∀ n,n∈x.times→-1≤n∧n≤11:=by
  intro n hn
  obtain ⟨i,hi,rfl⟩:=KS hn
  exact h.all _ (by omega) (by have:=h.len;omega)
 have hv:=(bR h.val).2
 refine ⟨ht,hv,?_⟩
 intro n hm
 unfold keyL at hm
 simp only [List.mem_append,List.mem_map,List.mem_singleton] at hm
 rcases hm with (rfl | ⟨m,hm,rfl⟩) | ⟨m,hm,rfl⟩
 ·omega
 ·have:=ht m hm;omega
 ·have:=hv m hm;omega
theorem EE {xs ys:List Int}(h:xs.map (fun n=>n+1)=ys.map (fun n=>n+1)):xs=ys:=by
 have:=congrArg (fun l=>l.map (fun n:Int=>n - 1)) h
 simpa [Function.comp_def] using this
theorem JD {s:GShow}{x y:GState}(hx:StR s x)(hy:StR s y)(h:keyS x=keyS y):x=y:=by
 have h1:=congrArg (fun b=>b.data.toList) h
 simp only [keyS,Hk] at h1
 have h2:=KR (ED hx).2.2 (ED hy).2.2 h1
 unfold keyL at h2
 have hlen:x.times.length=y.times.length:=by rw [hx.len,hy.len]
 have e1:=List.append_inj h2 (by simp [hlen])
 obtain ⟨e2,e3⟩:=e1
 simp only [List.singleton_append,List.cons.injEq] at e2
 have e4:=EE e2.2
 have e5:=EE e3
 obtain ⟨a,b,c⟩:=x
 obtain ⟨a',b',c'⟩:=y
 simp only at e2 e4 e5
 rw [e2.1,e4,e5]
theorem NP {s:GShow}{x:GState}(h:StR s x):po x=some (keyS x):=by
 obtain ⟨ht,hv,_⟩:=ED h
 have hn:=h.now
 have hh:=h.right.hor
 have hln:=h.len
 have h7:=h.right.nodes
 have h3:=(bR h.val).1
 unfold po
 have k1:aq (kj x.times ((x.times.length:Nat):Int) x.now x.values) (((0:Nat):Int),[x.now]++(x.times.take 0).map (fun n=>n+1))=some ([x.now]++x.times.map (fun n=>n+1)):=by
  refine aV x.times.length (fun i=>((i:Int),[x.now]++(x.times.take i).map (fun n=>n+1))) ?_ ?_
  ·intro i hi
   have hb:=ht _ (List.getElem_mem hi)
   unfold kj
   try simp only
   rw [if_pos (by omega),aB hi]
   simp only [obnd]
   rw [au (by simp;omega),au (by simp;omega),wr (x:=(i:Int)+1) (by omega) (by omega),wr (x:=x.times[i]+1) (by omega) (by omega),wr8 (by omega) (by omega),List.take_succ_eq_append_getElem hi,List.map_append,← List.append_assoc];rfl
  ·unfold kj
   try simp only
   rw [if_neg (by omega),List.take_length]
 have k2:aq (kk x.values ((x.values.length:Nat):Int)) (((0:Nat):Int),[x.now]++x.times.map (fun n=>n+1)++(x.values.take 0).map (fun n=>n+1))=some (keyL x):=by
  unfold keyL
  refine aV x.values.length (fun i=>((i:Int),[x.now]++x.times.map (fun n=>n+1)++(x.values.take i).map (fun n=>n+1))) ?_ ?_
  ·intro i hi
   have hb:=hv _ (List.getElem_mem hi)
   unfold kk
   try simp only
   rw [if_pos (by omega),aB hi]
   simp only [obnd]
   rw [au (by simp;omega),au (by simp;omega),wr (x:=(i:Int)+1) (by omega) (by omega),wr (x:=x.values[i]+1) (by omega) (by omega),wr8 (by omega) (by omega),List.take_succ_eq_append_getElem hi,List.map_append,← List.append_assoc];rfl
  ·unfold kk
   try simp only
   rw [if_neg (by omega),List.take_length]
 simp only [List.take_zero,List.map_nil,Int.natCast_zero,List.append_nil] at k1 k2
 rw [wr8 (by omega) (by omega),k1]
 simp only [obnd]
 rw [k2];rfl
end Go.Proofs.QA
set_option maxRecDepth 100000
namespace Go.Proofs.QA
open Go
def cM (r:GState→Bool)(s:GShow)(y:GState)(nodes:List Int):Bool:=(obsL (aF s nodes)).all (fun vs=>r (obsX (decX y nodes) (aF s nodes) vs))
def anyB (r:GState→Bool)(s:GShow)(y:GState):Bool:=(decL s y).any (cM r s y)
noncomputable def lE (r:GState→Bool)(s:GShow)(x:GState):Bool:=
 if og s x=true then false else if sM s x=true then true else (dL s x).all (fun ties=>anyB r s (endX s x ties))
noncomputable def winF:Nat→GShow→GState→Bool
 | 0,_,_=>false
 | n+1,s,x=>lE (winF n s) s x
noncomputable def win (s:GShow)(x:GState):Bool:=winF 12 s x
theorem yi {r r':GState→Bool}{s:GShow}{y:GState}(h:MomR s y){nodes:List Int}(hn:nodes∈decL s y)(hr:∀ z,aD s z=true→z.now=y.now+1→r z=r' z):cM r s y nodes=cM r' s y nodes:=by
 obtain ⟨_,_,hm⟩:=lf h.right hn
 unfold cM
 rw [Bool.eq_iff_iff,List.all_eq_true,List.all_eq_true]
 have key:∀ vs,vs∈obsL (aF s nodes)→r (obsX (decX y nodes) (aF s nodes) vs)=r' (obsX (decX y nodes) (aF s nodes) vs):=by
  intro vs hv
  obtain ⟨h1,h2⟩:=As hv
  exact hr _ (Aq h hm h1 h2) rfl
 exact ⟨fun h vs hv=>by rw [← key vs hv];exact h vs hv,fun h vs hv=>by rw [key vs hv];exact h vs hv⟩
theorem Hl {r r':GState→Bool}{s:GShow}{y:GState}(h:MomR s y)(hr:∀ z,aD s z=true→z.now=y.now+1→r z=r' z):anyB r s y=anyB r' s y:=by
 unfold anyB
 rw [Bool.eq_iff_iff,List.any_eq_true,List.any_eq_true]
 exact ⟨fun ⟨nd,h1,h2⟩=>⟨nd,h1,by rw [← yi h h1 hr];exact h2⟩,fun ⟨nd,h1,h2⟩=>⟨nd,h1,by rw [yi h h1 hr];exact h2⟩⟩
theorem sT {s:GShow}{x:GState}(hx:aD s x=true){ties:List Int}(ht:ties∈dL s x):MomR s (endX s x ties):=by
 obtain ⟨h1,h2,h3⟩:=tF (cU hx).ok ht
 exact wX (yN hx h1 h3)
theorem CG {r r':GState→Bool}{s:GShow}{x:GState}(hx:aD s x=true)(hr:∀ z,aD s z=true→z.now=x.now+1→r z=r' z):lE r s x=lE r' s x:=by
 unfold lE
 cases og s x
 ·cases sM s x
  ·simp only [Bool.false_eq_true,if_false]
   rw [Bool.eq_iff_iff,List.all_eq_true,List.all_eq_true]
   have key:∀ ties,ties∈dL s x→anyB r s (endX s x ties)=anyB r' s (endX s x ties):=fun ties ht=>Hl (sT hx ht) hr
   exact ⟨fun h t ht=>by rw [← key t ht];exact h t ht,fun h t ht=>by rw [key t ht];exact h t ht⟩
  ·rfl
 ·rfl
theorem yj {s:GShow}:∀ (n:Nat) (x:GState),aD s x=true→12≤(n:Int)+x.now→winF (n+1) s x=winF n s x
 | 0,x,hx,h=>by
  have:=(cU hx).now
  have:=(cU hx).right.hor
  omega
 | n+1,x,hx,h=>by
  show lE (winF (n+1) s) s x=lE (winF n s) s x
  exact CG hx (fun z hz hn=>yj n z hz (by omega))
theorem KT {s:GShow}{x:GState}(hx:aD s x=true){n:Nat}(h:12≤(n:Int)+x.now):winF n s x=win s x:=by
 have hn:=(cU hx).now
 unfold win
 have up:∀ k m:Nat,12≤(m:Int)+x.now→winF (m+k) s x=winF m s x:=by
  intro k
  induction k with
  | zero=>intro m _;rfl
  | succ k ih=>
   intro m hm
   rw [← Nat.add_assoc,yj (m+k) x hx (by omega),ih m hm]
 rcases Nat.le_total n 12 with h1 | h1
 ·have:=up (12 - n) n h
  rw [show n+(12 - n)=12 by omega] at this
  exact this.symm
 ·have:=up (n - 12) 12 (by omega)
  rwa [show 12+(n - 12)=n by omega] at this
theorem NQ {s:GShow}{x:GState}(hx:aD s x=true):win s x=lE (win s) s x:=by
 have h1:win s x=winF 13 s x:=(KT hx (by have:=(cU hx).now;omega)).symm
 rw [h1]
 show lE (winF 12 s) s x=_
 rfl
theorem EF {α β ρ:Type}(xs:List α)(q:α→Bool)(I:β→Prop)(body:Int × β→Option (Step (Int × β) ρ))(rT rF:β→ρ)
  (h1:∀ i (hi:i<xs.length) k,I k→∃ k',I k'∧body ((i:Int),k)=some (if q xs[i]=true then .next ((i:Int)+1,k') else .done (rF k')))
  (h2:∀ k,I k→body ((xs.length:Int),k)=some (.done (rT k))) (k:β) (hk:I k) :
  ∃ k',I k'∧aq body (0,k)=some (if xs.all q=true then rT k' else rF k'):=by
 have key:=bL (body:=body) (s0:=((0:Int),k)) xs.length (fun i st=>st.1=(i:Int)∧I st.2∧∀ j (hj:j<xs.length),j<i→q xs[j]=true)
  (fun r=>∃ k',I k'∧r=(if xs.all q=true then rT k' else rF k')) ⟨rfl,hk,fun j _ h=>absurd h (by omega)⟩ ?_ ?_
 ·obtain ⟨r,hr,hp⟩:=key
  obtain ⟨k',h3,rfl⟩:=hp
  exact ⟨k',h3,hr⟩
 ·rintro i ⟨a,k⟩ hi ⟨rfl,hI,hall⟩
  obtain ⟨k',hk',hb⟩:=h1 i hi k hI
  cases hq:q xs[i]
  ·rw [hq,if_neg (by simp)] at hb
   refine .inr ⟨_,hb,k',hk',?_⟩
   rw [if_neg]
   intro hA
   rw [List.all_eq_true] at hA
   have:=hA _ (List.getElem_mem hi)
   rw [hq] at this;cases this
  ·rw [hq,if_pos rfl] at hb
   refine .inl ⟨_,hb,rfl,hk',fun j hj hlt=>?_⟩
   rcases Nat.lt_or_ge j i with h | h
   ·exact hall j hj h
   ·obtain rfl:j=i:=by omega
    exact hq
 ·rintro ⟨a,k⟩ ⟨rfl,hI,hall⟩
  refine ⟨_,h2 k hI,k,hI,?_⟩
  rw [if_pos]
  rw [List.all_eq_true]
  intro x hx
  obtain ⟨j,hj,rfl⟩:=List.getElem_of_mem hx
  exact hall j hj hj
theorem Ix {α β ρ:Type}(xs:List α)(q:α→Bool)(I:β→Prop)(body:Int × β→Option (Step (Int × β) ρ))(rT:β→ρ)(rF:α→β→ρ)
  (h1:∀ i (hi:i<xs.length) k,I k→∃ k',I k'∧body ((i:Int),k)=some (if q xs[i]=true then .done (rF xs[i] k') else .next ((i:Int)+1,k')))
  (h2:∀ k,I k→body ((xs.length:Int),k)=some (.done (rT k))) (k:β) (hk:I k) :
  ∃ k',I k'∧aq body (0,k)=some (match xs.find? q with | some a=>rF a k' | none=>rT k'):=by
 have key:=bL (body:=body) (s0:=((0:Int),k)) xs.length (fun i st=>st.1=(i:Int)∧I st.2∧∀ j (hj:j<xs.length),j<i→q xs[j]=false)
  (fun r=>∃ k',I k'∧r=(match xs.find? q with | some a=>rF a k' | none=>rT k')) ⟨rfl,hk,fun j _ h=>absurd h (by omega)⟩ ?_ ?_
 ·obtain ⟨r,hr,hp⟩:=key
  obtain ⟨k',h3,rfl⟩:=hp
  exact ⟨k',h3,hr⟩
 ·rintro i ⟨a,k⟩ hi ⟨rfl,hI,hall⟩
  obtain ⟨k',hk',hb⟩:=h1 i hi k hI
  cases hq:q xs[i]
  ·rw [hq,if_neg (by simp)] at hb
   refine .inl ⟨_,hb,rfl,hk',fun j hj hlt=>?_⟩
   rcases Nat.lt_or_ge j i with h | h
   ·exact hall j hj h
   ·obtain rfl:j=i:=by omega
    exact hq
  ·rw [hq,if_pos rfl] at hb
   refine .inr ⟨_,hb,k',hk',?_⟩
   have:xs.find? q=some xs[i]:=by
    rw [List.find?_eq_some_iff_getElem]
    exact ⟨hq,i,hi,rfl,fun j hj=>by simp [hall j (by omega) hj]⟩
   rw [this]
 ·rintro ⟨a,k⟩ ⟨rfl,hI,hall⟩
  refine ⟨_,h2 k hI,k,hI,?_⟩
  have:xs.find? q=none:=by
   rw [List.find?_eq_none]
   intro x hx
   obtain ⟨j,hj,rfl⟩:=List.getElem_of_mem hx
   simp [hall j hj hj]
  rw [this]
def bE (s:GShow)(k:List (ByteArray × Bool)):Prop:=∀ x b,aD s x=true→mE (keyS x) k=some b→b=win s x
theorem BW (s:GShow):bE s []:=fun x b _ h=>by cases h
theorem Iy (a c:ByteArray)(b:Bool):∀ k,mE a (setB c b k)=if a == c then some b else mE a k:=by
 intro k
 induction k with
 | nil=>simp only [setB,mE]
 | cons p k ih=>
  simp only [setB,mE]
  by_cases h:(c == p.1)=true
  ·rw [if_pos h]
   simp only [mE]
   obtain rfl:=(Go.MapKept.bytes_beq _ _).1 h
   split <;> rfl
  ·rw [if_neg h]
   simp only [mE,ih]
   by_cases h2:(a == p.1)=true
   ·rw [if_pos h2,if_pos h2]
    rw [if_neg]
    intro h3
    obtain rfl:=(Go.MapKept.bytes_beq _ _).1 h3
    exact h h2
   ·rw [if_neg h2,if_neg h2]
theorem Iz {s:GShow}{k:List (ByteArray × Bool)}(h:bE s k){x:GState}(hx:aD s x=true):bE s (setB (keyS x) (win s x) k):=by
 intro y b hy hf
 rw [Iy] at hf
 split at hf
 ·rename_i he
  cases hf
  have:=JD (cU hy) (cU hx) ((Go.MapKept.bytes_beq _ _).1 he)
  rw [this]
 ·exact h y b hy hf
abbrev RecT:=GShow→(List (ByteArray × Bool))→GState→Option (Bool × (List (ByteArray × Bool)))
def Au (s:GShow)(t:Int)(rec:RecT):Prop:=∀ known x,aD s x=true→x.now=t→bE s known→∃ known',bE s known'∧rec s known x=some (win s x,known')
theorem yk {s:GShow}{rec:RecT}{y:GState}(hr:Au s (y.now+1) rec)(h:MomR s y){nodes:List Int}(hn:nodes∈decL s y){known:List (ByteArray × Bool)}(hk:bE s known) :
  ∃ known',bE s known'∧cK rec s known y nodes=some (cM (win s) s y nodes,known'):=by
 obtain ⟨ha,hl7,hm⟩:=lf h.right hn
 have hv:=(bR h.val).1
 have h7:=h.right.nodes
 have hln:=h.len
 have hnow:=h.now
 have hh:=h.right.hor
 have hp:∀ p,p∈aF s nodes→1≤p∧p≤3:=fun p hp=>⟨(ck hp).1,(ck hp).2.1⟩
 have hl3:=uu s nodes
 have ho:=JC (ps:=aF s nodes) (by omega)
 unfold cK
 rw [vI h ha hl7 hm]
 simp only [obnd]
 rw [wo (wY s nodes) hp hl3]
 simp only
 have key:=EF (obsL (aF s nodes)) (fun vs=>win s (obsX (decX y nodes) (aF s nodes) vs)) (bE s)
  (cu rec (((obsL (aF s nodes)).length:Nat):Int) (decX y nodes).now (decX y nodes).times (decX y nodes).values (aF s nodes) (obsL (aF s nodes)) s.nodes s.ties s.horizon)
  (fun k=>.inl k) (fun k=>.inr (false,k)) ?_ ?_ known hk
 ·obtain ⟨k',hk',e⟩:=key
  rw [e]
  refine ⟨k',hk',?_⟩
  unfold cM
  cases (obsL (aF s nodes)).all (fun vs=>win s (obsX (decX y nodes) (aF s nodes) vs)) <;> rfl
 ·intro i hi k hk
  obtain ⟨h1,h2⟩:=As (List.getElem_mem hi)
  have hob:=Aq h hm h1 h2
  obtain ⟨k',hk',e⟩:=hr k _ hob rfl hk
  refine ⟨k',hk',?_⟩
  unfold cu
  try simp only
  rw [if_pos (by omega),aB hi]
  simp only [obnd]
  rw [show (GState.mk (decX y nodes).now (decX y nodes).times (decX y nodes).values)=decX y nodes from rfl,(uC (decX y nodes) (aF s nodes) _ (by show 0≤y.now∧y.now≤1000;omega) (by show (bQ _ _ _ _).length≤_;rw [dX];omega) hv hp h1 (by omega)).1]
  simp only
  rw [show (GShow.mk s.nodes s.ties s.horizon)=s from rfl,e]
  simp only
  rw [wr (by omega) (by omega)]
  cases win s (obsX (decX y nodes) (aF s nodes) (obsL (aF s nodes))[i]) <;> rfl
 ·intro k _
  unfold cu
  try simp only
  rw [if_neg (by omega)]
theorem Av {s:GShow}(hs:bw s){rec:RecT}{y:GState}(hr:Au s (y.now+1) rec)(h:MomR s y){known:List (ByteArray × Bool)}(hk:bE s known) :
  ∃ known',bE s known'∧dc rec s known y=some (match (decL s y).find? (cM (win s) s y) with | some nd=>(nd,true,known') | none=>([],false,known')):=by
 have hl:=vH h.right y
 unfold dc
 rw [tG hs h]
 simp only [obnd]
 have key:=Ix (decL s y) (cM (win s) s y) (bE s) (dT rec (((decL s y).length:Nat):Int) y.now y.times y.values (decL s y) s.nodes s.ties s.horizon)
  (fun k=>.inl k) (fun nd k=>.inr (nd,true,k)) ?_ ?_ known hk
 ·obtain ⟨k',hk',e⟩:=key
  rw [e]
  refine ⟨k',hk',?_⟩
  cases (decL s y).find? (cM (win s) s y) <;> rfl
 ·intro i hi k hk
  obtain ⟨k',hk',e⟩:=yk hr h (List.getElem_mem hi) hk
  refine ⟨k',hk',?_⟩
  unfold dT
  try simp only
  rw [if_pos (by omega),aB hi]
  simp only [obnd]
  rw [show (GShow.mk s.nodes s.ties s.horizon)=s from rfl,show (GState.mk y.now y.times y.values)=y from rfl,e]
  simp only
  rw [wr (by omega) (by omega)]
  cases cM (win s) s y (decL s y)[i] <;> rfl
 ·intro k _
  unfold dT
  try simp only
  rw [if_neg (by omega)]
theorem IA {s:GShow}(hs:bw s){rec:RecT}{x:GState}(hx:aD s x=true)(hr:Au s (x.now+1) rec){known:List (ByteArray × Bool)}(hk:bE s known) :
  ∃ known',bE s known'∧fI rec s known x=some (win s x,known'):=by
 have hR:=cU hx
 have hv:=(bR hR.val).1
 have hel:=wT (x:=x) hR.ok
 unfold fI
 rw [yh hs hR]
 simp only [obnd]
 have hw:=NQ hx
 unfold lE at hw
 cases hb:og s x
 ·rw [hb] at hw
  simp only [Bool.false_eq_true,if_false] at hw ⊢
  rw [vJ hs hR]
  simp only
  cases ho:sM s x
  ·rw [ho] at hw
   simp only [Bool.false_eq_true,if_false] at hw ⊢
   rw [NP hR]
   simp only
   cases hf:mE (keyS x) known with
   | some b=>exact ⟨known,hk,by rw [← hk x b hx hf];rfl⟩
   | none=>
    simp only [Gy]
    rw [vG hx]
    simp only
    have key:=EF (dL s x) (fun ties=>anyB (win s) s (endX s x ties)) (bE s) (eR rec (keyS x) (((dL s x).length:Nat):Int) x.now x.times x.values (dL s x) s.nodes s.ties s.horizon)
     (fun k=>(true,k)) (fun k=>(false,k)) ?_ ?_ known hk
    ·obtain ⟨k',hk',e⟩:=key
     rw [e]
     refine ⟨_,Iz hk' hx,?_⟩
     rw [hw]
     cases (dL s x).all (fun ties=>anyB (win s) s (endX s x ties)) <;> rfl
    ·intro i hi k hk
     have hmem:=List.getElem_mem hi
     obtain ⟨h1,h2,h3⟩:=tF hR.ok hmem
     have hM:=sT hx hmem
     obtain ⟨k',hk',e⟩:=Av hs (y:=endX s x (dL s x)[i]) hr hM hk
     refine ⟨k',hk',?_⟩
     unfold eR
     try simp only
     rw [if_pos (by omega),aB hi]
     simp only [obnd]
     rw [show (GShow.mk s.nodes s.ties s.horizon)=s from rfl,show (GState.mk x.now x.times x.values)=x from rfl,yM hx (by omega) (by omega) h3]
     simp only
     rw [e]
     have hany:anyB (win s) s (endX s x (dL s x)[i])=((decL s (endX s x (dL s x)[i])).find? (cM (win s) s (endX s x (dL s x)[i]))).isSome:=by
      unfold anyB
      rw [Bool.eq_iff_iff,List.find?_isSome,List.any_eq_true]
     rw [hany,wr (by omega) (by omega)]
     cases (decL s (endX s x (dL s x)[i])).find? (cM (win s) s (endX s x (dL s x)[i])) <;> rfl
    ·intro k _
     unfold eR
     try simp only
     rw [if_neg (by omega)]
  ·rw [ho] at hw
   exact ⟨known,hk,by rw [hw];rfl⟩
 ·rw [hb] at hw
  exact ⟨known,hk,by rw [hw];rfl⟩
theorem BX {s:GShow}(hs:bw s):∀ (n:Nat) (t:Int),12≤(n:Int)+t→Au s t (ga n)
 | 0,t,h=>by
  intro known x hx ht hk
  have:=(cU hx).now
  have:=(cU hx).right.hor
  omega
 | n+1,t,h=>by
  intro known x hx ht hk
  exact IA hs hx (by rw [ht];exact BX hs n (t+1) (by omega)) hk
theorem FY {s:GShow}(hs:bw s)(t:Int)(h:0≤t):Au s t m_impl_game_wins:=BX hs 40 t (by omega)
end Go.Proofs.QA
set_option maxRecDepth 100000
namespace Go.Proofs.QA
open Go
end Go.Proofs.QA
