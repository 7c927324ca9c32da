/- The reference's game reckons winning too. Own work. -/
import Derived.Test.YtpkcmjnlnbddbaaGreatDoorXfP33
import Derived.Test.YtpkcmjnlnbddbaaGreatDoorXfP24
import Derived.Lib.AtoiAllCases
import Derived.Lib.IndexBytes
set_option linter.all false
set_option maxRecDepth 100000
namespace Go.Proofs.Qf
open Go
end Go.Proofs.Qf
set_option maxRecDepth 100000
namespace Go.Proofs.Qf
open Go
theorem Cr {α:Type}{l:List α}{n:Nat}{x:α}(h:n<l.length):(l.set n x).take (n+1)=l.take n++[x]:=by
 have e:(l.set n x).take n=l.take n:=by
  apply List.ext_getElem?
  intro i
  rw [List.getElem?_take,List.getElem?_take]
  split
  ·rw [List.getElem?_set_ne (by omega)]
  ·rfl
 rw [dW (by simp;exact h),e]
 simp
theorem Jp {α:Type}{xs ys:List α}{i:Nat}(h:i+ys.length≤xs.length):(putL xs i ys).take i=xs.take i:=by
 unfold putL
 rw [if_pos h,List.append_assoc,List.take_append_of_le_length (by rw [List.length_take];omega),List.take_take]
 simp
theorem Jq {α β ρ:Type}(xs:List α)(q:α→Bool)(I:β→Prop)(body:Int × β→Option (Step (Int × β) ρ))(rT:β→ρ)(rF:Int→β→ρ)
  (h1:∀ i (hi:i<xs.length) k,I k→∃ k',I k'∧body ((i:Int),k)=some (if q xs[i]=true then .done (rF (i:Int) k') else .next ((i:Int)+1,k')))
  (h2:∀ k,I k→body ((xs.length:Int),k)=some (.done (rT k))) (k:β) (hk:I k) :
  ∃ k',I k'∧al body (0,k)=some (if 0≤aG xs q then rF (aG xs q) k' else rT k'):=by
 have key:=bW (body:=body) (s0:=((0:Int),k)) xs.length (fun i st=>st.1=(i:Int)∧I st.2∧∀ j (hj:j<xs.length),j<i→q xs[j]=false)
  (fun r=>∃ k',I k'∧r=(if 0≤aG xs q then rF (aG xs q) k' else rT k')) ⟨rfl,hk,fun j _ h=>absurd h (by omega)⟩ ?_ ?_
 ·obtain ⟨r,hr,hp⟩:=key
  obtain ⟨k',h3,rfl⟩:=hp
  exact ⟨k',h3,hr⟩
 ·rintro i ⟨a,k⟩ hi ⟨rfl,hI,hall⟩
  obtain ⟨k',hk',hb⟩:=h1 i hi k hI
  cases hq:q xs[i]
  ·rw [hq,if_neg (by simp)] at hb
   refine .inl ⟨_,hb,rfl,hk',fun j hj hlt=>?_⟩
   rcases Nat.lt_or_ge j i with h | h
   ·exact hall j hj h
   ·obtain rfl:j=i:=by omega
    exact hq
  ·rw [hq,if_pos rfl] at hb
   refine .inr ⟨_,hb,k',hk',?_⟩
   have:aG xs q=(i:Int):=by
    unfold aG
    have:xs.findIdx? q=some i:=by
     rw [List.findIdx?_eq_some_iff_getElem]
     exact ⟨hi,hq,fun j hj=>by simp [hall j (by omega) hj]⟩
    rw [this]
   rw [this,if_pos (by omega)]
 ·rintro ⟨a,k⟩ ⟨rfl,hI,hall⟩
  refine ⟨_,h2 k hI,k,hI,?_⟩
  rw [if_neg]
  intro h0
  obtain ⟨j,hj,_,hq,_⟩:=fq h0
  rw [hall j hj hj] at hq
  cases hq
theorem vz {α:Type}{xs:List α}{q:α→Bool}(h:¬ 0≤aG xs q):aG xs q=-1∧xs.any q=false:=by
 constructor
 ·unfold aG at h ⊢
  cases hf:xs.findIdx? q with
  | none=>rfl
  | some j=>rw [hf] at h;simp at h
 ·rw [← ib];exact decide_eq_false h
section
variable {s:GShow} {y:GState}
theorem MY (hs:bC s)(h:MomR s y){nodes:List Int}(hn:nodes∈decL s y){known:List (ByteArray × Bool)}(hk:bU s known) :
  ∃ known',bU s known'∧dQ nodes s known y=some (!cX (win s) s y nodes,known'):=by
 obtain ⟨k',hk',e⟩:=yw (Cq hs _ (by have:=h.now;omega)) h hn hk
 refine ⟨k',hk',?_⟩
 unfold dQ lG
 rw [e];rfl
theorem Cs (hs:bC s)(h:MomR s y)(xs:List (List Int))(hx:∀ nd,nd∈xs→nd∈decL s y)(hl:xs.length≤128){known:List (ByteArray × Bool)}(hk:bU s known) :
  ∃ known',bU s known'∧bd xs s known y=some (aG xs (fun nd=>!cX (win s) s y nd),xs,known'):=by
 unfold bd
 have key:=Jq xs (fun nd=>!cX (win s) s y nd) (bU s) (aX ((xs.length:Nat):Int) xs s.nodes s.ties s.horizon y.now y.times y.values)
  (fun k=>.inl k) (fun i k=>.inr (i,xs,k)) ?_ ?_ known hk
 ·obtain ⟨k',hk',e⟩:=key
  rw [e]
  refine ⟨k',hk',?_⟩
  simp only [obnd]
  by_cases h0:0≤aG xs (fun nd=>!cX (win s) s y nd)
  ·rw [if_pos h0]
  ·rw [if_neg h0,(vz h0).1]
 ·intro i hi k hk
  obtain ⟨k',hk',e⟩:=MY hs h (hx _ (List.getElem_mem hi)) hk
  refine ⟨k',hk',?_⟩
  unfold aX
  try simp only
  rw [if_pos (by omega),aw hi]
  simp only [obnd]
  rw [show (GShow.mk s.nodes s.ties s.horizon)=s from rfl,show (GState.mk y.now y.times y.values)=y from rfl,e]
  simp only
  rw [wr (by omega) (by omega)]
  cases cX (win s) s y xs[i] <;> rfl
 ·intro k _
  unfold aX
  try simp only
  rw [if_neg (by omega)]
theorem AY (hs:bC s)(h:MomR s y)(xs:List (List Int))(hx:∀ nd,nd∈xs→nd∈decL s y)(hl:xs.length≤128){known:List (ByteArray × Bool)}(hk:bU s known) :
  ∃ known',bU s known'∧ba xs s known y=some (xs.filter (fun nd=>cX (win s) s y nd),known'):=by
 obtain ⟨k1,hk1,e1⟩:=Cs hs h xs hx hl hk
 have hfn:xs.filter (fun nd=>cX (win s) s y nd)=xs.filter (fun nd=>!(!cX (win s) s y nd)):=by simp
 rw [hfn]
 unfold ba
 rw [e1]
 simp only [obnd]
 generalize hq':(fun nd=>!cX (win s) s y nd)=q at *
 have hq:∀ nd,q nd=!cX (win s) s y nd:=fun nd=>by rw [← hq']
 have hff:(fun nd=>!(!cX (win s) s y nd))=(fun x=>!q x):=by funext nd;rw [hq]
 rw [hff]
 by_cases h0:0≤aG xs q
 ·obtain ⟨i0,hi0,he,hq0,hno⟩:=fq h0
  rw [he,if_neg (by omega),wr (x:=(i0:Int)+1) (by omega) (by omega)]
  have htake:(xs.take i0).filter (fun x=>!q x)=xs.take i0:=by
   rw [List.filter_eq_self]
   intro x hm
   obtain ⟨j,hj,rfl⟩:=List.getElem_of_mem hm
   rw [List.length_take] at hj
   rw [List.getElem_take,hno j (by omega)];rfl
  have inv:∃ r,al (aW xs.length s.nodes s.ties s.horizon y.now y.times y.values) ((i0:Int),(i0:Int)+1,xs,k1)=some r∧(r.1=(((xs.filter (fun x=>!q x)).length:Nat):Int)∧r.2.1.length=xs.length∧r.2.1.take (xs.filter (fun x=>!q x)).length=xs.filter (fun x=>!q x)∧bU s r.2.2):=by
   refine bW (xs.length - (i0+1)) (fun (k:Nat) (s':Int × Int × List (List Int) × List (ByteArray × Bool))=>s'.2.1=((i0+1+k:Nat):Int)∧s'.1=((((xs.take (i0+1+k)).filter (fun x=>!q x)).length:Nat):Int)∧s'.2.2.1.length=xs.length ∧
    s'.2.2.1.take ((xs.take (i0+1+k)).filter (fun x=>!q x)).length=(xs.take (i0+1+k)).filter (fun x=>!q x)∧(∀ j,i0+1+k≤j→s'.2.2.1[j]?=xs[j]?)∧((xs.take (i0+1+k)).filter (fun x=>!q x)).length<i0+1+k∧bU s s'.2.2.2) _ ?_ ?_ ?_
   ·have e1:(xs.take (i0+1)).filter (fun x=>!q x)=xs.take i0:=by
     rw [dW hi0,List.filter_append,htake]
     simp [hq0]
    have hl:(xs.take i0).length=i0:=by rw [List.length_take];omega
    refine ⟨by simp only;omega,?_,rfl,?_,fun _ _=>rfl,?_,hk1⟩
    ·simp only [Nat.add_zero];rw [e1,hl]
    ·simp only [Nat.add_zero];rw [e1,hl]
    ·simp only [Nat.add_zero];rw [e1,hl];omega
   ·rintro k ⟨v5,v6,v0,kn⟩ hk ⟨h1,h2,h3,h4,h5,h6,h7⟩
    simp only at h1 h2 h3 h4 h5 h6 h7
    have hj:i0+1+k<xs.length:=by omega
    have hg:getI v0 v6=some xs[i0+1+k]:=by
     unfold getI
     rw [h1,if_pos (by omega),Int.toNat_natCast,h5 _ (Nat.le_refl _),List.getElem?_eq_getElem hj]
    obtain ⟨kn',hkn',ec⟩:=MY hs h (hx _ (List.getElem_mem hj)) h7
    left
    unfold aW
    simp only
    rw [if_pos (by omega),ai (by omega),hg,wr (x:=v6+1) (by omega) (by omega)]
    simp only [obnd]
    rw [show (GShow.mk s.nodes s.ties s.horizon)=s from rfl,show (GState.mk y.now y.times y.values)=y from rfl,ec,← hq]
    simp only
    cases hqq:q xs[i0+1+k]
    ·have e2:(xs.take (i0+1+(k+1))).filter (fun x=>!q x)=(xs.take (i0+1+k)).filter (fun x=>!q x)++[xs[i0+1+k]]:=by
      rw [show i0+1+(k+1)=i0+1+k+1 by omega,dW hj,List.filter_append]
      simp [hqq]
     have hv5:getI v0 v5=some v0[((xs.take (i0+1+k)).filter (fun x=>!q x)).length]:=by rw [h2,aw (by omega)]
     rw [if_neg (by simp),ai (by omega),hv5,wr (x:=v5+1) (by omega) (by omega)]
     refine ⟨_,rfl,by simp only;omega,?_,?_,?_,?_,?_,hkn'⟩
     ·simp only;rw [e2,List.length_append,h2];simp
     ·simp only [List.length_set];exact h3
     ·simp only;rw [e2,List.length_append,h2,Int.toNat_natCast]
      simp only [List.length_cons,List.length_nil,Nat.zero_add]
      rw [Cr (by omega),h4]
     ·intro j hj'
      simp only
      rw [h2,Int.toNat_natCast,List.getElem?_set_ne (by omega)]
      exact h5 j (by omega)
     ·rw [e2,List.length_append];simp;omega
    ·have e2:(xs.take (i0+1+(k+1))).filter (fun x=>!q x)=(xs.take (i0+1+k)).filter (fun x=>!q x):=by
      rw [show i0+1+(k+1)=i0+1+k+1 by omega,dW hj,List.filter_append]
      simp [hqq]
     rw [if_pos rfl]
     refine ⟨_,rfl,by simp only;omega,?_,h3,?_,fun j hj'=>h5 j (by omega),?_,hkn'⟩
     ·simp only;rw [e2];exact h2
     ·simp only;rw [e2];exact h4
     ·rw [e2];omega
   ·rintro ⟨v5,v6,v0,kn⟩ ⟨h1,h2,h3,h4,h5,h6,h7⟩
    simp only at h1 h2 h3 h4 h7
    have hall:i0+1+(xs.length - (i0+1))=xs.length:=by omega
    rw [hall] at h1 h2 h4
    rw [List.take_length] at h2 h4
    unfold aW
    simp only
    rw [if_neg (by omega)]
    exact ⟨_,rfl,h2,h3,h4,h7⟩
  obtain ⟨⟨v5,v0,kn⟩,hr,h1,h2,h3,h4⟩:=inv
  rw [hr]
  simp only at h1 h2 h3 h4 ⊢
  have hle:=List.length_filter_le (fun x=>!q x) xs
  subst h1
  simp only [Int.toNat_natCast]
  rw [ai (by omega),ai (by omega),ai (by omega),ai (by omega),ai (by rw [yj];omega),ai (by omega),Jp (by rw [List.length_replicate];omega),h3]
  exact ⟨kn,h4,rfl⟩
 ·obtain ⟨h2,h1⟩:=vz h0
  rw [if_pos h2,ai (Nat.le_refl _),List.take_length]
  refine ⟨k1,hk1,?_⟩
  congr 2
  symm
  rw [List.filter_eq_self]
  intro x hm
  rw [List.any_eq_false] at h1
  have:=h1 x hm
  cases hqx:q x
  ·rfl
  ·exact absurd hqx this
theorem Mr (hs:bC s)(h:MomR s y){known:List (ByteArray × Bool)}(hk:bU s known) :
  ∃ known',bU s known'∧iH s known y=some ((decL s y).filter (cX (win s) s y),known'):=by
 obtain ⟨k',hk',e⟩:=AY hs h (decL s y) (fun _ h=>h) (tR h.right y) hk
 refine ⟨k',hk',?_⟩
 unfold iH
 rw [rf hs h]
 simp only [obnd]
 rw [e]
end
def qy (lazy:Bool)(l:List (List Int))(p:List Int→Bool):Option (List Int):=if lazy=true then l.reverse.find? p else l.find? p
theorem Ms (l:List (List Int))(p:List Int→Bool)(lazy:Bool)(hl:l.length≤128) :
  lH (l.filter p) lazy=some (match qy lazy l p with | some nd=>(nd,true) | none=>([],false)):=by
 have hle:=List.length_filter_le p l
 unfold lH qy
 have e1:l.find? p=(l.filter p).head?:=(List.head?_filter).symm
 have e2:l.reverse.find? p=(l.filter p).getLast?:=by rw [← List.head?_filter,List.filter_reverse,List.head?_reverse]
 rw [e1,e2]
 generalize l.filter p=m at *
 by_cases h0:m=[]
 ·subst h0
  rw [if_pos (by simp)]
  cases lazy <;> rfl
 ·have hpos:0<m.length:=List.length_pos_iff.2 h0
  rw [if_neg (by omega)]
  cases lazy
  ·simp only [Bool.false_eq_true,if_false]
   have:getI m ((0:Nat):Int)=some m[0]:=aw hpos
   rw [show ((0:Nat):Int)=0 from rfl] at this
   rw [this,List.head?_eq_getElem?,List.getElem?_eq_getElem hpos];rfl
  ·simp only [if_true]
   rw [wr (by omega) (by omega),show ((m.length:Nat):Int) - 1=((m.length - 1:Nat):Int) by omega,aw (by omega),List.getLast?_eq_getElem?,List.getElem?_eq_getElem (by omega)];rfl
end Go.Proofs.Qf
set_option maxRecDepth 100000
namespace Go.Proofs.Qf
open Go
theorem Jr (log:List an)(hl:log.length≤1048576)(he:∀ e,e∈log→FitE e):ka log=some log:=by
 unfold ka
 have key:al (gT log ((log.length:Nat):Int)) (((0:Nat):Int),log.take 0)=some log:=by
  refine aT log.length (fun i=>((i:Int),log.take i)) ?_ ?_
  ·intro i hi
   have hf:=he _ (List.getElem_mem hi)
   unfold gT
   try simp only
   rw [if_pos (by omega),aw hi]
   simp only [obnd]
   rw [dX _ hf.ties,dX _ hf.nodes,dX _ hf.values]
   simp only
   rw [ai (by rw [List.length_take];omega),ai (by rw [List.length_take];omega),wr (by omega) (by omega),List.take_succ_eq_append_getElem hi];rfl
  ·unfold gT
   try simp only
   rw [if_neg (by omega),List.take_length]
 simp only [Int.natCast_zero,List.take_zero] at key
 rw [key];rfl
theorem yx (d:GDesk)(h:FitD d):gH d=some d:=by
 unfold gH
 rw [ym _ h.sh]
 simp only [obnd]
 rw [oG _ h.st.times h.st.values]
 simp only
 rw [Jr _ h.log h.entry]
def pmB (values:List Int):Bool:=decide (values.length=3)&&values.all (fun v=>decide (v=1) || decide (v=-1))
noncomputable def cF (d:GDesk)(ties values:List Int):Int:=
 if fI d=true then (if pmB values=true then (if eG d.show_ d.state=true then 2 else if kH d.show_ d.state=true then 2 else if d.show_.horizon<d.state.now then 2 else if ties∈cE d.show_ d.state then 0 else 3) else 1) else 1
def df (values ps:List Int):List Int:=ps.map (fun p=>tm values (p - 1))
def litL (values ps:List Int):List Int:=ps.map (fun p=>p*tm values (p - 1))
noncomputable def finD (d:GDesk)(ties values nodes:List Int):GDesk:=
 ⟨d.show_,obsX (decX (endX d.show_ d.state ties) nodes) (aD d.show_ nodes) (df values (aD d.show_ nodes)),d.lazy,d.log++[⟨d.state.now,ties,nodes,litL values (aD d.show_ nodes)⟩]⟩
noncomputable def mM (d:GDesk)(ties values:List Int)(refused:Int)(c:Option (List Int)):GDesk × List Int × Int:=
 if cF d ties values=0 then (match c with | some nd=>(finD d ties values nd,nd,0) | none=>(d,[],refused)) else (d,[],cF d ties values)
theorem kx {d:GDesk}(h:fI d=true):aC d.show_ d.state=true:=by
 unfold fI at h
 simp only [Bool.and_eq_true] at h
 exact h.1.1.1
theorem lM {d:GDesk}{ties values:List Int}(h:cF d ties values=0):fI d=true∧pmB values=true∧ties∈cE d.show_ d.state∧eG d.show_ d.state=false∧kH d.show_ d.state=false∧¬ d.show_.horizon<d.state.now:=by
 unfold cF at h
 split at h
 ·rename_i h1
  split at h
  ·rename_i h2
   split at h
   ·omega
   ·rename_i h3
    split at h
    ·omega
    ·rename_i h4
     split at h
     ·omega
     ·rename_i h5
      split at h
      ·rename_i h6
       exact ⟨h1,h2,h6,by simpa using h3,by simpa using h4,h5⟩
      ·omega
  ·omega
 ·omega
theorem Mt {values:List Int}(h:pmB values=true):values.length=3∧∀ v,v∈values→v=1∨v=-1:=by
 unfold pmB at h
 rw [Bool.and_eq_true,decide_eq_true_eq,List.all_eq_true] at h
 exact ⟨h.1,fun v hv=>by have:=h.2 v hv;simpa using this⟩
theorem Js {values:List Int}(h:pmB values=true){k:Int}(h0:0≤k)(h1:k<3):tm values k=1∨tm values k=-1:=by
 obtain ⟨h2,h3⟩:=Mt h
 unfold tm
 rw [List.getElem?_eq_getElem (show k.toNat<values.length by omega)]
 exact h3 _ (List.getElem_mem _)
theorem Sa {values:List Int}(h3:values.length=3):values.any (fun v=>!(decide (v=1) || decide (v=-1)))=!pmB values:=by
 unfold pmB
 rw [decide_eq_true h3,Bool.true_and,List.any_eq_not_all_not]
 simp
theorem FX (v:Int):fF v=some (!(decide (v=1) || decide (v=-1))):=by
 unfold fF
 by_cases h:v=1
 ·rw [if_pos h,decide_eq_true h];rfl
 ·rw [if_neg h,decide_eq_false h]
  by_cases h2:v=-1
  ·rw [decide_eq_true h2,decide_eq_false (by simpa using h2)];rfl
  ·rw [decide_eq_false h2,decide_eq_true h2];rfl
theorem Hm {values ps:List Int}(hv:pmB values=true)(hp:∀ p,p∈ps→1≤p∧p≤3)(hl:ps.length≤3):jr ps (df values ps)=some (litL values ps):=by
 unfold jr
 have key:al (gB (df values ps) ps ((ps.length:Nat):Int)) (((0:Nat):Int),litL values (ps.take 0))=some (litL values ps):=by
  refine aT ps.length (fun i=>((i:Int),litL values (ps.take i))) ?_ ?_
  ·intro i hi
   have hb:=hp _ (List.getElem_mem hi)
   have ht:=Js hv (k:=ps[i] - 1) (by omega) (by omega)
   have hl1:(litL values (ps.take i)).length≤3:=by unfold litL;rw [List.length_map,List.length_take];omega
   have hsl:(df values ps).length=ps.length:=by unfold df;simp
   unfold gB
   try simp only
   rw [if_pos (by omega),aw hi,aw (show i<(df values ps).length by omega)]
   simp only [obnd]
   have hs:(df values ps)[i]'(by omega)=tm values (ps[i] - 1):=by unfold df;simp
   rw [hs,ai (by omega),ai (by omega),wr (x:=(i:Int)+1) (by omega) (by omega),wr (x:=ps[i]*tm values (ps[i] - 1)) (by rcases ht with h | h <;> rw [h] <;> omega) (by rcases ht with h | h <;> rw [h] <;> omega)]
   congr 3
   unfold litL
   rw [List.take_succ_eq_append_getElem hi,List.map_append];rfl
  ·unfold gB
   try simp only
   rw [if_neg (by omega),List.take_length]
 simp only [Int.natCast_zero,List.take_zero] at key
 rw [show litL values []=[] from rfl] at key
 rw [key];rfl
theorem tU {values ps:List Int}(hv:pmB values=true)(hp:∀ p,p∈ps→1≤p∧p≤3):(df values ps).length=ps.length∧∀ v,v∈df values ps→v=1∨v=-1:=by
 refine ⟨by unfold df;simp,fun v hm=>?_⟩
 unfold df at hm
 rw [List.mem_map] at hm
 obtain ⟨p,hpm,rfl⟩:=hm
 have:=hp p hpm
 exact Js hv (by omega) (by omega)
theorem vA (d:GDesk)(ties values:List Int)(refused:Int)(d':GDesk)(hf:FitD d)(ht:ties.length≤1048576)(hvl:values.length≤1048576)(c:Option (List Int))(hmem:∀ nd,c=some nd→nd∈decL d.show_ (endX d.show_ d.state ties))
  (hc:cF d ties values=0→∃ r,gA d.show_ [] (endX d.show_ d.state ties) d'=some r∧r.2.1=c.isSome∧∀ nd,c=some nd→r.1=nd) :
  bz d ties values refused d'=some (mM d ties values refused c):=by
 have hs:=hf.sh.small
 have hlog:=hf.log
 have hg0:=@lM d ties values
 unfold mM
 unfold bz
 rw [yx d hf]
 simp only [obnd]
 rw [yq d hf]
 simp only
 cases hd:fI d
 ·have e:cF d ties values=1:=by unfold cF;rw [hd];rfl
  rw [e];rfl
 have hx:=kx hd
 have hR:=bD hx
 simp only [if_true]
 by_cases h3:values.length=3
 rotate_left
 ·have e:cF d ties values=1:=by unfold cF pmB;rw [hd,decide_eq_false h3];rfl
  rw [if_neg (by omega),e];rfl
 rw [if_pos (by omega),fX values _ (fun v=>!(decide (v=1) || decide (v=-1))) (by unfold Cnt;omega) (fun v _=>FX v),Sa h3]
 simp only
 cases hp:pmB values
 ·have e:cF d ties values=1:=by unfold cF;rw [hd,hp];rfl
  rw [e];rfl
 simp only [Bool.not_true,Bool.false_eq_true,if_false]
 rw [sj hs hR]
 simp only
 cases hb:eG d.show_ d.state
 rotate_left
 ·have e:cF d ties values=2:=by unfold cF;rw [hd,hp,hb];rfl
  rw [e];rfl
 simp only [Bool.false_eq_true,if_false]
 rw [qx hs hR]
 simp only
 cases ho:kH d.show_ d.state
 rotate_left
 ·have e:cF d ties values=2:=by unfold cF;rw [hd,hp,hb,ho];rfl
  rw [e];rfl
 simp only [Bool.false_eq_true,if_false]
 by_cases hh:d.show_.horizon<d.state.now
 ·have e:cF d ties values=2:=by unfold cF;rw [hd,hp,hb,ho,if_pos hh];rfl
  rw [if_pos hh,e];rfl
 rw [if_neg hh,tP hx]
 simp only
 have hel:=vp (x:=d.state) hR.ok
 rw [yJ _ _ (by unfold Cnt;omega) (by unfold Cnt;omega)]
 simp only
 by_cases hm:ties∈cE d.show_ d.state
 rotate_left
 ·have e:cF d ties values=3:=by unfold cF;rw [hd,hp,hb,ho,if_neg hh,if_neg hm];rfl
  rw [decide_eq_false hm,e];rfl
 have e:cF d ties values=0:=by unfold cF;rw [hd,hp,hb,ho,if_neg hh,if_pos hm];rfl
 obtain ⟨a1,a2,a3⟩:=lJ hR.ok hm
 have hM:=mb hx hm
 have hv3:=(bA hR.val).1
 rw [decide_eq_true hm,if_pos rfl,yK hx (by omega) (by omega) a3]
 simp only
 unfold iu
 simp only
 obtain ⟨r,e1,e2,e3⟩:=hc e
 rw [e1,e]
 simp only [if_true]
 rw [e2]
 cases c with
 | none=>rfl
 | some nd=>
  have hn:=hmem nd rfl
  obtain ⟨n1,n2,n3⟩:=ik hM.right hn
  have hps:∀ p,p∈aD d.show_ nd→1≤p∧p≤3:=fun p hp=>⟨(bv hp).1,(bv hp).2.1⟩
  have hpl:=pQ d.show_ nd
  simp only [Option.isSome_some,if_true]
  rw [e3 nd rfl,tS hM n1 n2 n3]
  simp only
  have key:al (aZ ties values nd (((aD d.show_ nd).length:Nat):Int) d.show_.horizon d.state.now d.lazy d.state.now d.state.times d.state.values (decX (endX d.show_ d.state ties) nd).now d.show_.nodes d.show_.ties d.state.times d.state.values d.log (decX (endX d.show_ d.state ties) nd).times (decX (endX d.show_ d.state ties) nd).values (aD d.show_ nd)) (((0:Nat):Int),df values ((aD d.show_ nd).take 0))=some (df values (aD d.show_ nd)):=by
   refine aT (aD d.show_ nd).length (fun i=>((i:Int),df values ((aD d.show_ nd).take i))) ?_ ?_
   ·intro i hi
    have hb:=hps _ (List.getElem_mem hi)
    have hsl:(df values ((aD d.show_ nd).take i)).length≤3:=by unfold df;rw [List.length_map,List.length_take];omega
    unfold aZ
    try simp only
    rw [if_pos (by omega),aw hi]
    simp only [obnd]
    rw [wr (x:=(aD d.show_ nd)[i] - 1) (by omega) (by omega),dc (by omega) (by omega)]
    simp only
    rw [ai (by omega),ai (by omega),wr (by omega) (by omega)]
    congr 3
    unfold df
    rw [List.take_succ_eq_append_getElem hi,List.map_append];rfl
   ·unfold aZ
    try simp only
    rw [if_neg (by omega),List.take_length]
  simp only [Int.natCast_zero,List.take_zero] at key
  rw [show df values []=[] from rfl] at key
  rw [key]
  simp only
  obtain ⟨s1,s2⟩:=tU hp hps
  have hnow:=hR.now
  have hhor:=hR.right.hor
  have hln:=hM.len
  have h7:=hM.right.nodes
  rw [(si (decX (endX d.show_ d.state ties) nd) (aD d.show_ nd) (df values (aD d.show_ nd)) (by show 0≤d.state.now∧d.state.now≤1000;omega) (by show (bN _ _ _ _).length≤_;rw [eZ];omega) hv3 hps s1 (by omega)).1]
  simp only
  rw [dX _ ht,dX _ (by omega),Hm hp hps hpl]
  simp only
  rw [ai (by omega),ai (by omega)]
  rfl
end Go.Proofs.Qf
set_option maxRecDepth 100000
namespace Go.Proofs.Qf
open Go
end Go.Proofs.Qf
set_option maxRecDepth 100000
namespace Go.Proofs.Qf
open Go
noncomputable def tV (d:GDesk)(ties:List Int):Option (List Int):=qy d.lazy (decL d.show_ (endX d.show_ d.state ties)) (cX (win d.show_) d.show_ (endX d.show_ d.state ties))
theorem pR {lazy:Bool}{l:List (List Int)}{p:List Int→Bool}{nd:List Int}(h:qy lazy l p=some nd):nd∈l∧p nd=true:=by
 unfold qy at h
 split at h
 ·exact ⟨by simpa using List.mem_of_find?_eq_some h,List.find?_some h⟩
 ·exact ⟨List.mem_of_find?_eq_some h,List.find?_some h⟩
theorem DQ (d:GDesk)(ties values:List Int)(hf:FitD d)(ht:ties.length≤1048576)(hv:values.length≤1048576):js d ties values=some (mM d ties values 5 (tV d ties)):=by
 have hs:=hf.sh.small
 unfold js
 rw [vA d ties values 5 d hf ht hv (tV d ties) (fun nd h=>(pR h).1) ?_]
 ·rfl
 ·intro h0
  obtain ⟨g1,_,g3,_⟩:=lM h0
  have hM:=mb (kx g1) g3
  have hl:=tR hM.right (endX d.show_ d.state ties)
  unfold gA tV
  cases hz:d.lazy
  ·simp only [Bool.false_eq_true,if_false]
   obtain ⟨k',_,e⟩:=AW hs (y:=endX d.show_ d.state ties) (Cq hs _ (by have:=hM.now;omega)) hM (vy d.show_)
   unfold mm
   rw [e]
   simp only [obnd]
   refine ⟨_,rfl,?_⟩
   unfold qy
   simp only [Bool.false_eq_true,if_false]
   cases (decL d.show_ (endX d.show_ d.state ties)).find? (cX (win d.show_) d.show_ (endX d.show_ d.state ties)) with
   | none=>exact ⟨rfl,fun nd h=>by cases h⟩
   | some nd=>exact ⟨rfl,fun nd' h=>by cases h;rfl⟩
  ·simp only [if_true]
   obtain ⟨k',_,e⟩:=Mr hs hM (vy d.show_)
   rw [e]
   simp only [obnd]
   rw [Ms _ _ _ hl]
   simp only
   refine ⟨_,rfl,?_⟩
   cases qy true (decL d.show_ (endX d.show_ d.state ties)) (cX (win d.show_) d.show_ (endX d.show_ d.state ties)) with
   | none=>exact ⟨rfl,fun nd h=>by cases h⟩
   | some nd=>exact ⟨rfl,fun nd' h=>by cases h;rfl⟩
theorem KT (d:GDesk)(ties values:List Int)(refused:Int)(c:Option (List Int))(hf:FitD d)(ht:ties.length≤1048576)(hc:cF d ties values=0→∀ nd,c=some nd→nd∈decL d.show_ (endX d.show_ d.state ties)) :
  FitD (mM d ties values refused c).1∧(mM d ties values refused c).2.1.length≤7:=by
 unfold mM
 by_cases h0:cF d ties values=0
 ·rw [if_pos h0]
  cases c with
  | none=>exact ⟨hf,by simp⟩
  | some nd=>
   obtain ⟨g1,hp,g3,_⟩:=lM h0
   have hx:=kx g1
   have hR:=bD hx
   have hM:=mb hx g3
   have hnd:=hc h0 nd rfl
   obtain ⟨n1,n2,n3⟩:=ik hM.right hnd
   have hlog:(d.log.length:Int)=d.state.now:=by
    unfold fI at g1
    simp only [Bool.and_eq_true,decide_eq_true_eq] at g1
    exact g1.1.1.2
   have hnow:=hR.now
   have hhor:=hR.right.hor
   have hln:=hM.len
   have h7:=hM.right.nodes
   have hv3:=(bA hR.val).1
   have hpl:=pQ d.show_ nd
   refine ⟨⟨hf.sh,⟨?_,?_⟩,?_,?_⟩,n2⟩
   ·show (bN _ _ _ _).length≤_
    rw [eZ];omega
   ·show (setV _ _ _ _).length≤_
    rw [lL]
    show d.state.values.length≤_
    omega
   ·show (d.log++[_]).length≤_
    rw [List.length_append];simp;omega
   ·intro e he
    have he':e∈d.log++[⟨d.state.now,ties,nd,litL values (aD d.show_ nd)⟩]:=he
    rw [List.mem_append,List.mem_singleton] at he'
    rcases he' with he' | rfl
    ·exact hf.entry e he'
    ·exact ⟨ht,by show nd.length≤_;omega,by show (litL _ _).length≤_;unfold litL;rw [List.length_map];omega⟩
 ·rw [if_neg h0]
  exact ⟨hf,by simp⟩
end Go.Proofs.Qf
set_option maxRecDepth 100000
namespace Go.Proofs.Qf
open Go
end Go.Proofs.Qf
set_option maxRecDepth 100000
set_option maxHeartbeats 1000000
namespace Go.Proofs.Qf
open Go
noncomputable def bl (c:GChoice)(d:GDesk):GDesk × List Int × Int:=mM d (endL d.show_ d.state c) c.values 5 (tV d (endL d.show_ d.state c))
noncomputable def runF (c:GChoice):Nat→GDesk→GDesk × Int
 | 0,d=>(d,0)
 | n+1,d=>if (bl c d).2.2=0 then runF c n (bl c d).1 else (d,(bl c d).2.2)
noncomputable def runR (d:GDesk)(c:GChoice):GDesk × Int:=if fI d=true then (if aL d.show_ c=true then runF c 13 d else (d,1)) else (d,1)
def tupD (d:GDesk):Int × Int × Bool × (List GNode) × (List GTie) × (List Int) × (List Int) × (List an):=(d.show_.horizon,d.state.now,d.lazy,d.show_.nodes,d.show_.ties,d.state.times,d.state.values,d.log)
theorem qf {s:GShow}{c:GChoice}(h:aL s c=true):c.values.length=3:=by
 unfold aL at h
 simp only [Bool.and_eq_true,decide_eq_true_eq] at h
 exact h.1.1.2
theorem tW {d:GDesk}{ties values:List Int}{c:Option (List Int)}(h:(mM d ties values 5 c).2.2=0):cF d ties values=0∧∃ nd,c=some nd∧mM d ties values 5 c=(finD d ties values nd,nd,0):=by
 unfold mM at h ⊢
 by_cases h0:cF d ties values=0
 ·rw [if_pos h0] at h ⊢
  cases c with
  | none=>exact absurd h (by simp)
  | some nd=>exact ⟨h0,nd,rfl,rfl⟩
 ·rw [if_neg h0] at h
  exact absurd h h0
theorem KU {d:GDesk}{ties values nd:List Int}(h0:cF d ties values=0)(hn:nd∈decL d.show_ (endX d.show_ d.state ties)):aC d.show_ (finD d ties values nd).state=true:=by
 obtain ⟨g1,hp,g3,_⟩:=lM h0
 have hM:=mb (kx g1) g3
 obtain ⟨_,_,hm⟩:=ik hM.right hn
 obtain ⟨s1,s2⟩:=tU (values:=values) (ps:=aD d.show_ nd) hp (fun p h=>⟨(bv h).1,(bv h).2.1⟩)
 exact AR hM hm s1 s2
theorem FY {c:GChoice}{d:GDesk}(hf:FitD d)(h:(bl c d).2.2=0) :
  FitD (bl c d).1∧(bl c d).1.show_=d.show_∧aC d.show_ (bl c d).1.state=true∧(bl c d).1.state.now=d.state.now+1:=by
 unfold bl at h ⊢
 obtain ⟨h0,nd,hc,he⟩:=tW h
 have hl:=FM d.show_ d.state c hf.sh.ties
 have hnd:nd∈decL d.show_ (endX d.show_ d.state (endL d.show_ d.state c)):=(pR hc).1
 have hfit:=(KT d (endL d.show_ d.state c) c.values 5 (tV d (endL d.show_ d.state c)) hf hl (fun _ nd h=>(pR h).1)).1
 rw [he] at hfit ⊢
 exact ⟨hfit,rfl,KU h0 hnd,rfl⟩
theorem Oa (c:GChoice)(body:(Int × Int × Bool × (List GNode) × (List GTie) × (List Int) × (List Int) × (List an))→Option (Step (Int × Int × Bool × (List GNode) × (List GTie) × (List Int) × (List Int) × (List an)) (GDesk × Int)))
  (hb:∀ d,FitD d→aC d.show_ d.state=true→aL d.show_ c=true→body (tupD d)=some (if (bl c d).2.2=0 then .next (tupD (bl c d).1) else .done (d,(bl c d).2.2))) :
  ∀ (n:Nat) (d:GDesk),FitD d→aC d.show_ d.state=true→aL d.show_ c=true→12<(n:Int)+d.state.now→al body (tupD d)=some (runF c n d):=by
 intro n
 induction n with
 | zero=>
  intro d hf hx hc h
  have:=(bD hx).now
  have:=(bD hx).right.hor
  omega
 | succ n ih=>
  intro d hf hx hc h
  rw [aY,hb d hf hx hc]
  show _=some (if (bl c d).2.2=0 then runF c n (bl c d).1 else (d,(bl c d).2.2))
  by_cases h0:(bl c d).2.2=0
  ·obtain ⟨f1,f2,f3,f4⟩:=FY hf h0
   rw [if_pos h0,if_pos h0]
   exact ih _ f1 (by rw [f2];exact f3) (by rw [f2];exact hc) (by rw [f4];omega)
  ·rw [if_neg h0,if_neg h0]
theorem FZ (d:GDesk)(c:GChoice)(hf:FitD d):kf d c=some (runR d c):=by
 unfold kf runR
 rw [yx d hf]
 simp only [obnd]
 rw [yq d hf]
 simp only
 cases hD:fI d
 ·rw [if_neg (by simp),if_neg (by simp)]
 ·have hx:=kx hD
  rw [if_pos rfl,if_pos rfl,pt d.show_ c hf.sh.small (bD hx).right hf.sh.ties]
  simp only
  cases hC:aL d.show_ c
  ·rw [if_neg (by simp),if_neg (by simp)]
  ·rw [if_pos rfl,if_pos rfl]
   have hn:=(bD hx).now
   have key:=Oa c (jK c.lengths c.values) (by
    intro d hf hx hc
    have hl:=FM d.show_ d.state c hf.sh.ties
    have hv:=qf hc
    unfold jK tupD
    simp only
    rw [show (GShow.mk d.show_.nodes d.show_.ties d.show_.horizon)=d.show_ from rfl,show (GState.mk d.state.now d.state.times d.state.values)=d.state from rfl,show (GChoice.mk c.lengths c.values)=c from rfl,show (GDesk.mk d.show_ d.state d.lazy d.log)=d from rfl]
    rw [Cj d.show_ d.state c hf.sh hf.st]
    simp only [obnd]
    rw [DQ d _ c.values hf hl (by omega)]
    simp only
    show (if (bl c d).2.2=0 then _ else _)=_
    by_cases h0:(bl c d).2.2=0
    ·rw [if_pos h0,if_pos h0];rfl
    ·rw [if_neg h0,if_neg h0];rfl) 13 d hf hx hC (by omega)
   unfold tupD at key
   rw [key]
theorem Ga (c:GChoice):∀ (n:Nat) (d:GDesk),FitD d→FitD (runF c n d).1∧(runF c n d).1.show_=d.show_
 | 0,d,hf=>⟨hf,rfl⟩
 | n+1,d,hf=>by
  show FitD (if (bl c d).2.2=0 then runF c n (bl c d).1 else (d,(bl c d).2.2)).1∧(if (bl c d).2.2=0 then runF c n (bl c d).1 else (d,(bl c d).2.2)).1.show_=d.show_
  by_cases h0:(bl c d).2.2=0
  ·obtain ⟨f1,f2,f3,f4⟩:=FY hf h0
   rw [if_pos h0]
   obtain ⟨g1,g2⟩:=Ga c n _ f1
   exact ⟨g1,by rw [g2,f2]⟩
  ·rw [if_neg h0]
   exact ⟨hf,rfl⟩
theorem Gb (d:GDesk)(c:GChoice)(hf:FitD d):FitD (runR d c).1∧(runR d c).1.show_=d.show_:=by
 unfold runR
 split
 ·split
  ·exact Ga c 13 d hf
  ·exact ⟨hf,rfl⟩
 ·exact ⟨hf,rfl⟩
end Go.Proofs.Qf
set_option maxRecDepth 100000
set_option maxHeartbeats 1000000
namespace Go.Proofs.Qf
open Go
def oJ (s:GShow)(x:GState):Bool:=if aC s x=true then (if eG s x=true then false else kH s x) else false
theorem Hn (s:GShow)(x:GState)(hs:bC s)(fx:FitX x):kV s x=some (oJ s x):=by
 unfold kV oJ
 rw [oB s x hs fx.times fx.values]
 simp only [obnd]
 cases hx:aC s x
 ·rw [if_neg (by simp),if_neg (by simp)]
 ·rw [if_pos rfl,if_pos rfl,sj hs (bD hx)]
  simp only
  cases hb:eG s x
  ·rw [if_neg (by simp),if_neg (by simp),qx hs (bD hx)]
  ·rw [if_pos rfl,if_pos rfl]
noncomputable def mN (s:GShow)(c:GChoice)(z:Bool):List Int × Bool:=
 if aA s=true then (if aL s c=true then (if oJ s (runR (eH s z).1 c).1.state=true then ((runR (eH s z).1 c).1.state.times,true) else ([],false)) else ([],false)) else ([],false)
theorem Mu {s:GShow}(z:Bool)(h:aA s=true):(eH s z).2=true:=by
 unfold eH;rw [if_pos h]
theorem Mv {s:GShow}(z:Bool)(h:¬ aA s=true):(eH s z).2=false:=by
 unfold eH;rw [if_neg h]
theorem Gc (s:GShow)(c:GChoice)(z:Bool)(hf:FitS s):kg s c z=some (mN s c z):=by
 unfold kg mN
 rw [FK s z hf]
 simp only [obnd]
 by_cases hA:aA s=true
 ·rw [Mu z hA,if_pos rfl,if_pos hA,pt s c hf.small (bo hA) hf.ties]
  simp only
  cases hC:aL s c
  ·rw [if_neg (by simp),if_neg (by simp)]
  ·have hd:=Dr s z hf
   have fr:=(Gb (eH s z).1 c hd).1
   rw [if_pos rfl,if_pos rfl,FZ _ c hd]
   simp only
   rw [Hn s _ hf.small fr.st]
   simp only
   cases oJ s (runR (eH s z).1 c).1.state
   ·rw [if_neg (by simp),if_neg (by simp)]
   ·rw [if_pos rfl,if_pos rfl,dX _ fr.st.times]
 ·rw [Mv z hA,if_neg (by simp),if_neg hA]
theorem KV (s:GShow)(c:GChoice)(z:Bool)(hf:FitS s):(mN s c z).1.length≤1048576:=by
 unfold mN
 have fr:=(Gb (eH s z).1 c (Dr s z hf)).1.st.times
 split
 ·split
  ·split
   ·exact fr
   ·simp
  ·simp
 ·simp
end Go.Proofs.Qf
set_option maxRecDepth 100000
set_option maxHeartbeats 1000000
namespace Go.Proofs.Qf
open Go
theorem lit1 {p v:Int}(h1:1≤p)(h2:p≤3)(hv:v=1∨v=-1):pr (p*v)=p∧sgn (p*v)=v∧p*v≠0∧-3≤p*v∧p*v≤3:=by
 have:p=1∨p=2∨p=3:=by omega
 rcases this with rfl | rfl | rfl <;> rcases hv with rfl | rfl <;> decide
theorem AZ {values ps:List Int}(hv:pmB values=true)(hp:∀ p,p∈ps→1≤p∧p≤3){p:Int}(h:p∈ps):pr (p*tm values (p - 1))=p∧sgn (p*tm values (p - 1))=tm values (p - 1)∧p*tm values (p - 1)≠0∧-3≤p*tm values (p - 1)∧p*tm values (p - 1)≤3:=by
 have h1:=hp p h
 exact lit1 h1.1 h1.2 (Js hv (by omega) (by omega))
theorem Sb {values ps:List Int}(hv:pmB values=true)(hp:∀ p,p∈ps→1≤p∧p≤3):(litL values ps).map pr=ps:=by
 unfold litL
 rw [List.map_map]
 conv=>rhs;rw [← List.map_id ps]
 exact List.map_congr_left (fun p h=>(AZ hv hp h).1)
theorem Ob {values ps:List Int}(hv:pmB values=true)(hp:∀ p,p∈ps→1≤p∧p≤3):(litL values ps).map sgn=df values ps:=by
 unfold litL df
 rw [List.map_map]
 exact List.map_congr_left (fun p h=>(AZ hv hp h).2.1)
theorem KW {values ps:List Int}(hv:pmB values=true)(hp:∀ p,p∈ps→1≤p∧p≤3)(ha:Asc ps):bB (litL values ps)=true:=by
 have hlen:(litL values ps).length=ps.length:=List.length_map _
 have hget:∀ i,i<ps.length→(litL values ps).getD i 0=ps.getD i 0*tm values (ps.getD i 0 - 1):=by
  intro i hi
  unfold litL
  simp [hi]
 have hmem:∀ i,i<ps.length→ps.getD i 0∈ps:=by
  intro i hi
  rw [show ps.getD i 0=ps[i] by simp [hi]]
  exact List.getElem_mem hi
 unfold bB
 refine decide_eq_true ?_
 intro i hi
 rw [hlen] at hi
 unfold labP
 refine decide_eq_true ?_
 rw [hget i hi]
 obtain ⟨a1,a2,a3,a4,a5⟩:=AZ hv hp (hmem i hi)
 refine ⟨a3,a4,a5,?_⟩
 intro h0
 rw [hget (i - 1) (by omega),a1,(AZ hv hp (hmem (i - 1) (by omega))).1]
 exact FT ha hi h0
theorem yy {s:GShow}(e:an):∀ (log:List an) (x:GState),(bg s x log).2=true→(cw s (bg s x log).1 e).2=true→bg s x (log++[e])=((cw s (bg s x log).1 e).1,true)
 | [],x,_,h=>by
  show (if (cw s x e).2=true then bg s (cw s x e).1 [] else (kl,false))=_
  have h':(cw s x e).2=true:=h
  rw [if_pos h'];rfl
 | f::r,x,h,g=>by
  have hc:∀ l,bg s x (f::l)=if (cw s x f).2=true then bg s (cw s x f).1 l else (kl,false):=fun _=>rfl
  rw [hc] at h g
  rw [List.cons_append,hc,hc]
  by_cases he:(cw s x f).2=true
  ·rw [if_pos he] at h g
   rw [if_pos he,if_pos he]
   exact yy e r _ h g
  ·rw [if_neg he] at h;cases h
theorem Gd {d:GDesk}{ties values nd:List Int}(h0:cF d ties values=0)(hn:nd∈decL d.show_ (endX d.show_ d.state ties)):fI (finD d ties values nd)=true:=by
 obtain ⟨g1,hp,g3,_⟩:=lM h0
 have hps:∀ p,p∈aD d.show_ nd→1≤p∧p≤3:=fun p h=>⟨(bv h).1,(bv h).2.1⟩
 have hst:=KU (values:=values) h0 hn
 have hg:=g1
 unfold fI at hg
 simp only [Bool.and_eq_true,decide_eq_true_eq] at hg
 obtain ⟨⟨⟨e1,e2⟩,e3⟩,e4⟩:=hg
 have hstep:cw d.show_ d.state ⟨d.state.now,ties,nd,litL values (aD d.show_ nd)⟩=((finD d ties values nd).state,true):=by
  unfold cw
  rw [if_pos ⟨rfl,g3,KW hp hps (vu _ _),hn,Sb hp hps⟩]
  simp only
  rw [Ob hp hps]
  rfl
 have hrep:dG d.show_ (d.log++[⟨d.state.now,ties,nd,litL values (aD d.show_ nd)⟩])=((finD d ties values nd).state,true):=by
  unfold dG at e3 e4 ⊢
  by_cases hA:aA d.show_=true
  ·rw [if_pos hA] at e3 e4 ⊢
   rw [yy _ d.log _ e3 (by rw [e4,hstep]),e4,hstep]
  ·rw [if_neg hA] at e3;cases e3
 unfold fI
 simp only [Bool.and_eq_true,decide_eq_true_eq]
 refine ⟨⟨⟨hst,?_⟩,?_⟩,?_⟩
 ·show (((d.log++[_]).length:Nat):Int)=d.state.now+1
  rw [List.length_append]
  simp only [List.length_cons,List.length_nil]
  omega
 ·show (dG d.show_ (d.log++[_])).2=true
  rw [hrep]
 ·show (dG d.show_ (d.log++[_])).1=_
  rw [hrep]
theorem Ge {s:GShow}(z:Bool)(h:aA s=true):fI (eH s z).1=true:=by
 unfold eH
 rw [if_pos h]
 unfold fI
 simp only [Bool.and_eq_true,decide_eq_true_eq]
 refine ⟨⟨⟨rg h,rfl⟩,?_⟩,?_⟩
 ·unfold dG;rw [if_pos h];rfl
 ·unfold dG;rw [if_pos h];rfl
end Go.Proofs.Qf
set_option maxRecDepth 100000
set_option maxHeartbeats 1000000
namespace Go.Proofs.Qf
open Go
structure BrT (t:GTie):Prop where
 f0:0≤t.from_
 f1:t.from_<4
 t0:0≤t.to
 t1:t.to<4
 ne:t.from_≠t.to
 lo:-20≤t.low
 hi:t.high≤20
 lh:t.low≤t.high
 fr:t.free=false
theorem BrT.b {t:GTie}(h:BrT t){ns:List GNode}{ts:List GTie}{z:Int}(hn:4≤ns.length):tieB ⟨ns,ts,z⟩ t=true:=by
 have h1:=h.f1
 have h2:=h.t1
 unfold tieB
 rw [decide_eq_true_eq]
 exact ⟨⟨h.f0,by show t.from_<(ns.length:Int);omega⟩,⟨h.t0,by show t.to<(ns.length:Int);omega⟩,h.ne,h.lo,h.hi,h.lh⟩
theorem BrT.f {t:GTie}(h:BrT t){s:GShow}{i:Nat}:nx s i t=true:=by
 unfold nx
 rw [h.fr];rfl
end Go.Proofs.Qf
set_option maxRecDepth 100000
set_option maxHeartbeats 1000000
namespace Go.Proofs.Qf
open Go
theorem Ho {s:GShow}{x:GState}(hs:bC s)(fx:FitX x)(hx:aC s x=true):kX s x=some (win s x):=by
 unfold kX
 rw [oB s x hs fx.times fx.values]
 simp only [obnd]
 rw [hx,if_pos rfl]
 unfold iu
 simp only
 obtain ⟨k,_,e⟩:=Cq hs x.now (bD hx).now.1 [] x hx rfl (vy s)
 rw [e]
end Go.Proofs.Qf
set_option maxRecDepth 100000
set_option maxHeartbeats 1000000
namespace Go.Proofs.Qf
open Go
theorem Oc {ps vs:List Int}(h3:ps.length≤3)(hl:vs.length=ps.length)(hv:∀ v,v∈vs→v=1∨v=-1):vs∈obsL ps:=by
 unfold obsL
 rw [← hl]
 have h3':vs.length≤3:=by omega
 clear hl
 match vs,hv,h3' with
 | [],_,_=>decide +kernel
 | [a],hv,_=>
  rcases hv a (by simp) with rfl | rfl <;> decide +kernel
 | [a,b],hv,_=>
  rcases hv a (by simp) with rfl | rfl <;> rcases hv b (by simp) with rfl | rfl <;> decide +kernel
 | [a,b,c],hv,_=>
  rcases hv a (by simp) with rfl | rfl <;> rcases hv b (by simp) with rfl | rfl <;> rcases hv c (by simp) with rfl | rfl <;> decide +kernel
 | _::_::_::_::_,_,h=>simp at h
theorem Od {d:GDesk}{ties values nd:List Int}(h0:cF d ties values=0)(hs:cX (win d.show_) d.show_ (endX d.show_ d.state ties) nd=true):win d.show_ (finD d ties values nd).state=true:=by
 obtain ⟨g1,hp,g3,_⟩:=lM h0
 have hps:∀ p,p∈aD d.show_ nd→1≤p∧p≤3:=fun p h=>⟨(bv h).1,(bv h).2.1⟩
 obtain ⟨s1,s2⟩:=tU (values:=values) (ps:=aD d.show_ nd) hp hps
 unfold cX at hs
 rw [List.all_eq_true] at hs
 exact hs _ (Oc (pQ _ _) s1 s2)
theorem KX {d:GDesk}{ties values:List Int}(hd:fI d=true)(hp:pmB values=true):(cF d ties values=2∧(eG d.show_ d.state=true∨kH d.show_ d.state=true∨d.show_.horizon<d.state.now))∨(¬ eG d.show_ d.state=true∧¬ kH d.show_ d.state=true∧¬ d.show_.horizon<d.state.now∧cF d ties values=if ties∈cE d.show_ d.state then 0 else 3):=by
 unfold cF
 rw [if_pos hd,if_pos hp]
 by_cases hb:eG d.show_ d.state=true
 ·rw [if_pos hb];exact .inl ⟨rfl,.inl hb⟩
 ·rw [if_neg hb]
  by_cases ho:kH d.show_ d.state=true
  ·rw [if_pos ho];exact .inl ⟨rfl,.inr (.inl ho)⟩
  ·rw [if_neg ho]
   by_cases hh:d.show_.horizon<d.state.now
   ·rw [if_pos hh];exact .inl ⟨rfl,.inr (.inr hh)⟩
   ·rw [if_neg hh];exact .inr ⟨hb,ho,hh,rfl⟩
theorem Jt {lazy:Bool}{l:List (List Int)}{p:List Int→Bool}(h:qy lazy l p=none):∀ nd,nd∈l→p nd=false:=by
 unfold qy at h
 intro nd hn
 split at h
 ·simpa using List.find?_eq_none.1 h nd (by simpa using hn)
 ·simpa using List.find?_eq_none.1 h nd hn
theorem yz (code:List Int)(n:Int)(h:code.length≤1048576)(h0:0≤n)(h1:n≤1000000):∃ r,iv code n=some r∧0≤r:=by
 unfold iv
 obtain ⟨c,e,hc⟩:=KH code n h h0 h1
 rw [e]
 simp only [obnd]
 obtain ⟨r,e,a0,a1,hr⟩:=qw hc
 rw [e]
 simp only
 obtain ⟨q,e,b0,b1,hq⟩:=qw hr
 rw [e]
 refine ⟨_,rfl,?_⟩
 rw [wr (x:=r.1*256) (by omega) (by omega),wr (x:=r.1*256+q.1) (by omega) (by omega)]
 omega
end Go.Proofs.Qf
set_option maxRecDepth 100000
set_option maxHeartbeats 1000000
namespace Go.Proofs.Qf
open Go
theorem wR {s:GShow}{k:Int}(h:k∈aV s):∃ i,∃ hi:i<s.ties.length,k=(i:Int)∧s.ties[i].free=true:=by
 obtain ⟨i,hi,hp,rfl⟩:=eY.1 h
 unfold eX at hp
 rw [List.getElem?_eq_getElem hi] at hp
 exact ⟨i,hi,rfl,hp⟩
theorem Gf {s:GShow}(h:aA s=true):(aV s).length≤6:=by
 have hR:=bo h
 have hn:=hR.nodes
 have hnd:((aV s).map (fun k=>(aI s k).to)).Nodup:=by
  unfold List.Nodup
  rw [List.pairwise_map]
  refine List.Pairwise.imp_of_mem ?_ (oD _ _)
  intro a b ha hb hab he
  obtain ⟨i,hi,rfl,hf⟩:=wR ha
  obtain ⟨j,hj,rfl,hg⟩:=wR hb
  rw [bO hi,bO hj] at he
  have:=tN h hi hj hf hg he
  omega
 have:=rI (r:=[1,2,3,4,5,6]) hnd (fun y hy=>by
  rw [List.mem_map] at hy
  obtain ⟨k,hk,rfl⟩:=hy
  obtain ⟨i,hi,rfl,hf⟩:=wR hk
  rw [bO hi]
  have hT:=hR.tie _ (List.getElem_mem hi)
  have h0:=(gg h hi hf).t0
  have h1:=hT.t0
  have h2:=hT.t1
  simp only [List.mem_cons,List.not_mem_nil,or_false]
  omega)
 simpa using this
theorem KY {s:GShow}(h:aA s=true){k:Int}(hk:k∈aV s):∃ t,getI s.ties k=some t∧-20≤t.low∧t.low≤t.high∧t.high≤20:=by
 obtain ⟨i,hi,rfl,_⟩:=wR hk
 have hT:=(bo h).tie _ (List.getElem_mem hi)
 exact ⟨_,aw hi,hT.lo,hT.lh,hT.hi⟩
theorem Mw {s:GShow}(hf:FitS s)(h:aA s=true):∃ n,cU s=some n∧1≤n∧n≤1000000000000:=by
 have h6:=Gf h
 have hs:=hf.small
 unfold cU
 rw [Hv s hs,h]
 simp only [obnd,if_true]
 rw [AH s hf.ties]
 change ∃ n,(obnd (al (cP (((aV s).length:Nat):Int) s.nodes s.ties s.horizon (aV s)) (1,0)) _)=_∧_
 have key:∃ q,al (cP (((aV s).length:Nat):Int) s.nodes s.ties s.horizon (aV s)) (1,0)=some q∧1≤q∧q≤4750104241:=by
  have hp:∀ i:Nat,i≤6→(41:Int)^i≤4750104241:=by
   intro i hi
   have:i=0∨i=1∨i=2∨i=3∨i=4∨i=5∨i=6:=by omega
   rcases this with rfl | rfl | rfl | rfl | rfl | rfl | rfl <;> decide
  refine bW (aV s).length (fun i st=>st.2=(i:Int)∧1≤st.1∧st.1≤41^i) _ ⟨rfl,by decide,by decide⟩ ?_ ?_
  ·rintro i ⟨n,v⟩ hi ⟨hk,h1,h2⟩
   simp only at hk h1 h2
   subst hk
   obtain ⟨t,e,b1,b2,b3⟩:=KY h (List.getElem_mem hi)
   unfold cP
   simp only
   rw [if_pos (by omega),aw hi]
   simp only [obnd]
   rw [e]
   simp only
   have hp1:=hp (i+1) (by omega)
   rw [wr (x:=t.high - t.low) (by omega) (by omega),wr (x:=t.high - t.low+1) (by omega) (by omega)]
   have hm:n*(t.high - t.low+1)≤41^i*41:=Int.mul_le_mul h2 (by omega) (by omega) (by omega)
   have hm0:1*1≤n*(t.high - t.low+1):=Int.mul_le_mul h1 (by omega) (by omega) (by omega)
   rw [Int.pow_succ] at hp1
   rw [wr (x:=n*(t.high - t.low+1)) (by omega) (by omega),wr (x:=(i:Int)+1) (by omega) (by omega)]
   refine .inl ⟨_,rfl,by simp only;omega,by simp only;omega,?_⟩
   simp only
   rw [Int.pow_succ]
   exact hm
  ·rintro ⟨n,v⟩ ⟨hk,h1,h2⟩
   simp only at hk h1 h2
   subst hk
   unfold cP
   simp only
   rw [if_neg (by omega)]
   exact ⟨_,rfl,h1,Int.le_trans h2 (hp _ h6)⟩
 obtain ⟨q,e,q1,q2⟩:=key
 rw [e]
 simp only [obnd]
 have key:∃ r,al (dS s.nodes s.ties s.horizon) (q,1)=some r∧1≤r∧r≤1000000000000:=by
  refine bW 3 (fun i st=>st.2=1+(i:Int)∧1≤st.1∧(i=0→st.1≤4750104241)∧(i=1→st.1≤9500208482)∧(i=2→st.1≤19000416964)∧(i=3→st.1≤38000833928)) _ (by refine ⟨by simp,q1,?_,?_,?_,?_⟩ <;> intro h <;> first | exact q2 | omega) ?_ ?_
  ·rintro i ⟨n,p⟩ hi ⟨hk,h1,h2,h3,h4,h5⟩
   simp only at hk h1 h2 h3 h4 h5
   subst hk
   unfold dS
   simp only
   rw [if_pos (by omega),show (GShow.mk s.nodes s.ties s.horizon)=s from rfl,mO s _ hs.nodes]
   simp only [obnd]
   have hb:n≤19000416964:=by
    have:i=0∨i=1∨i=2:=by omega
    rcases this with rfl | rfl | rfl
    ·have:=h2 rfl;omega
    ·have:=h3 rfl;omega
    ·exact h4 rfl
   rw [wr (x:=1+(i:Int)+1) (by omega) (by omega)]
   split
   ·rw [wr (x:=2*n) (by omega) (by omega)]
    refine .inl ⟨_,rfl,by simp only;omega,by simp only;omega,fun h=>by omega,fun h=>?_,fun h=>?_,fun h=>?_⟩
    ·have:=h2 (by omega);simp only;omega
    ·have:=h3 (by omega);simp only;omega
    ·have:=h4 (by omega);simp only;omega
   ·refine .inl ⟨_,rfl,by simp only;omega,h1,fun h=>by omega,fun h=>?_,fun h=>?_,fun h=>?_⟩
    ·have:=h2 (by omega);simp only;omega
    ·have:=h3 (by omega);simp only;omega
    ·have:=h4 (by omega);simp only;omega
  ·rintro ⟨n,p⟩ ⟨hk,h1,h2,h3,h4,h5⟩
   simp only at hk h1 h2 h3 h4 h5
   subst hk
   unfold dS
   simp only
   rw [if_neg (by omega)]
   exact ⟨_,rfl,h1,by have:=h5 trivial;omega⟩
 obtain ⟨r,e,r1,r2⟩:=key
 rw [e]
 exact ⟨_,rfl,r1,r2⟩
end Go.Proofs.Qf
set_option maxRecDepth 100000
set_option maxHeartbeats 1000000
namespace Go.Proofs.Qf
open Go
theorem Ju {s:GShow}(h:aA s=true){i:Nat}(hi:i<s.ties.length)(hf:s.ties[i].free=true):br s s.ties[i].to.toNat=br s s.ties[i].from_.toNat:=by
 have hR:=bo h
 have hT:=hR.tie _ (List.getElem_mem hi)
 unfold aA at h
 simp only [Bool.and_eq_true,decide_eq_true_eq] at h
 have hp:=h.1.1.1.2 i hi
 rw [ta hi,Bool.and_eq_true] at hp
 have hF:=hp.2
 unfold nx at hF
 rw [hf] at hF
 simp only [Bool.not_true,Bool.false_or,Bool.and_eq_true,decide_eq_true_eq] at hF
 obtain ⟨⟨⟨h1,h2⟩,h3⟩,h4⟩:=hF
 have a1:=hT.t1
 have a2:=hT.f1
 have b1:s.nodes[s.ties[i].to.toNat]?=some (s.nodes[s.ties[i].to.toNat]'(by have:=hT.t0;omega)):=List.getElem?_eq_getElem _
 have b2:s.nodes[s.ties[i].from_.toNat]?=some (s.nodes[s.ties[i].from_.toNat]'(by have:=hT.f0;omega)):=List.getElem?_eq_getElem _
 rw [b1,b2] at h3
 simp only [decide_eq_true_eq] at h3
 unfold br
 rw [b1,b2]
 simp only [Option.map_some,Option.getD_some]
 exact h3.2
theorem tX {s:GShow}(h:aA s=true):br s 0=[]∧∀ (h0:0<s.nodes.length),s.nodes[0].watch=0:=by
 have hR:=bo h
 have hn:=hR.node1
 unfold aA iO pi at h
 simp only [Bool.and_eq_true] at h
 obtain ⟨⟨⟨⟨⟨⟨h1,hf⟩,_⟩,h2⟩,h3⟩,h4⟩,_⟩:=h
 rw [List.getElem?_eq_getElem (show 0<s.nodes.length by omega)] at hf
 simp only [Option.any_some,Bool.and_eq_true,decide_eq_true_eq] at hf
 refine ⟨?_,fun _=>hf.2⟩
 rw [kG (by omega)]
 exact hf.1
theorem Gg {ps v:List Int}(f:Int→Int)(hv:v.length=3)(hp:∀ p,p∈ps→1≤p∧p≤3):∀ n,n≤ps.length→∀ k:Int,0≤k→(∃ i,i<n∧ps.getD i 0 - 1=k)→tm (setV ps (ps.map f) v n) k=f (k+1)
 | 0,_,k,_,h=>by obtain ⟨i,hi,_⟩:=h;omega
 | n+1,hn,k,hk,h=>by
  rw [lK]
  have hb:=hp (ps.getD n 0) (by rw [List.getD_eq_getElem?_getD,List.getElem?_eq_getElem (show n<ps.length by omega)];exact List.getElem_mem _)
  rw [AN _ _ _ _ (by omega) (by rw [lL];omega) hk]
  by_cases e:k=ps.getD n 0 - 1
  ·rw [if_pos e,List.getD_eq_getElem?_getD,List.getElem?_map,List.getElem?_eq_getElem (show n<ps.length by omega)]
   rw [List.getD_eq_getElem?_getD,List.getElem?_eq_getElem (show n<ps.length by omega),Option.getD_some] at e
   simp only [Option.map_some,Option.getD_some]
   congr 1;omega
  ·rw [if_neg e]
   obtain ⟨i,hi,he⟩:=h
   exact Gg f hv hp n (by omega) k hk ⟨i,by rcases Nat.lt_or_ge i n with h1 | h1;exact h1;exact absurd (by rw [← he,show i=n by omega]) e,he⟩
structure sW (s:GShow) (c:GChoice) (x:GState):Prop where
 val:∀ k:Int,0≤k→k<3→tm x.values k≠0→tm x.values k=tm c.values k
 lab:∀ i:Nat,i<s.nodes.length→tm x.times (i:Int)≠-1→dA (br s i) x.values=1
 lit:∀ i:Nat,i<s.nodes.length→tm x.times (i:Int)≠-1→∀ l,l∈br s i→tm x.times (aM s (pr l))≠-1∧tm x.times (aM s (pr l))+1≤tm x.times (i:Int)
 ord:∀ i (hi:i<s.ties.length),s.ties[i].free=true→tm x.times s.ties[i].to≠-1→tm x.times s.ties[i].from_≠-1
 act:∀ i (hi:i<s.ties.length),s.ties[i].free=true→tm x.times s.ties[i].from_≠-1→tm x.times s.ties[i].to=-1→x.now - tm x.times s.ties[i].from_≤eF s c (i:Int)
 fin:∀ i (hi:i<s.ties.length),s.ties[i].free=true→tm x.times s.ties[i].to≠-1→tm x.times s.ties[i].to - tm x.times s.ties[i].from_=eF s c (i:Int)
theorem Oe {s:GShow}{i:Nat}(hi:i<s.ties.length)(hf:s.ties[i].free=true):(i:Int)∈aV s:=by
 refine eY.2 ⟨i,hi,?_,rfl⟩
 unfold eX
 rw [List.getElem?_eq_getElem hi];exact hf
theorem tY {s:GShow}{c:GChoice}(hc:aL s c=true)(h:aA s=true){i:Nat}(hi:i<s.ties.length)(hf:s.ties[i].free=true):s.ties[i].low≤eF s c (i:Int)∧eF s c (i:Int)≤s.ties[i].high:=by
 have hm:=Oe hi hf
 have hlt:=FL hm
 have hl:=rc hc
 unfold aL at hc
 simp only [Bool.and_eq_true,decide_eq_true_eq] at hc
 have hp:=hc.1.2 (idxOf (aV s) (i:Int)).toNat (by omega)
 unfold lenP at hp
 rw [decide_eq_true_eq] at hp
 have e:(aV s).getD (idxOf (aV s) (i:Int)).toNat 0=(i:Int):=by
  have h0:=hlt.1
  unfold idxOf at h0 ⊢
  cases hf:(List.range (aV s).length).find? (fun j=>decide ((i:Int)=(aV s).getD j 0)) with
  | none=>rw [hf] at h0;simp at h0
  | some j=>
   have:=List.find?_some hf
   simp only [decide_eq_true_eq] at this
   simp only [Int.toNat_natCast]
   exact this.symm
 rw [e,bO hi] at hp
 have e2:c.lengths.getD (idxOf (aV s) (i:Int)).toNat 0=eF s c (i:Int):=by
  unfold eF;rw [List.getD_eq_getElem?_getD]
 rw [e2] at hp
 exact hp
theorem KZ {s:GShow}{c:GChoice}(h:aA s=true)(hc:aL s c=true):sW s c (ce s):=by
 have hR:=bo h
 have hn:=hR.node1
 have h0:=tX h
 have ht:∀ i:Int,0≤i→i<s.nodes.length→tm (ce s).times i≠-1→i=0:=by
  intro i hi hl hne
  refine Classical.byContradiction (fun h1=>hne ?_)
  have key:∀ n (j:Nat),j<n→0<j→(stL n)[j]?=some (-1):=by
   intro n
   induction n with
   | zero=>intro j hj;omega
   | succ n ih=>
    intro j hj hj0
    cases n with
    | zero=>omega
    | succ n=>
     rw [yG]
     rcases Nat.lt_or_ge j (n+1) with h2 | h2
     ·rw [List.getElem?_append_left (by rw [lY];exact h2)];exact ih j h2 hj0
     ·rw [List.getElem?_append_right (by rw [lY];exact h2),lY,show j - (n+1)=0 by omega];rfl
  show tm (stL s.nodes.length) i=-1
  unfold tm
  rw [key s.nodes.length i.toNat (by omega) (by omega)];rfl
 have ht0:tm (ce s).times 0=0:=by
  show tm (stL s.nodes.length) 0=0
  have key:∀ n,(stL (n+1))[0]?=some 0:=by
   intro n
   induction n with
   | zero=>rfl
   | succ n ih=>rw [yG,List.getElem?_append_left (by rw [lY];omega)];exact ih
  obtain ⟨n,hn2⟩:=Nat.exists_eq_add_of_le hn
  rw [hn2,Nat.add_comm]
  unfold tm
  rw [show (0:Int).toNat=0 from rfl,key n];rfl
 refine ⟨?_,?_,?_,?_,?_,?_⟩
 ·intro k h1 h2 hne
  refine absurd ?_ hne
  show tm (List.replicate 3 0) k=0
  have:k=0∨k=1∨k=2:=by omega
  rcases this with rfl | rfl | rfl <;> rfl
 ·intro i hi hne
  have:=ht i (by omega) (by omega) hne
  have:i=0:=by omega
  subst this
  rw [h0.1];rfl
 ·intro i hi hne l hl
  have:=ht i (by omega) (by omega) hne
  have:i=0:=by omega
  subst this
  rw [h0.1] at hl;cases hl
 ·intro i hi hf hne
  have hT:=hR.tie _ (List.getElem_mem hi)
  exact absurd (ht _ hT.t0 hT.t1 hne) (gg h hi hf).t0
 ·intro i hi hf hne _
  have hT:=hR.tie _ (List.getElem_mem hi)
  have e:=ht _ hT.f0 hT.f1 hne
  rw [e,ht0]
  have:=(tY hc h hi hf).1
  have:=(gg h hi hf).low
  show (0:Int) - 0≤_
  omega
 ·intro i hi hf hne
  have hT:=hR.tie _ (List.getElem_mem hi)
  exact absurd (ht _ hT.t0 hT.t1 hne) (gg h hi hf).t0
theorem Jv {s:GShow}{x:GState}(hx:aC s x=true){ties:List Int}(ht:ties∈cE s x){nodes:List Int}(hn:nodes∈decL s (endX s x ties))(vs:List Int) :
  ∀ i:Int,0≤i→tm (obsX (decX (endX s x ties) nodes) (aD s nodes) vs).times i=if i∈nodes then x.now else if i∈ties.map (fun k=>(aI s k).to) then x.now else tm x.times i:=by
 have hR:=bD hx
 obtain ⟨_,_,ha⟩:=lJ hR.ok ht
 have hM:=mb hx ht
 obtain ⟨_,_,hm⟩:=ik hM.right hn
 have hlen:(endX s x ties).times.length=s.nodes.length:=hM.len
 intro i hi
 show tm (bN (fun k=>k) (endX s x ties).now nodes (endX s x ties).times) i=_
 rw [pN _ _ _ _ _ hi (fun k hk=>by obtain ⟨j,hj,e,_,_⟩:=mL (hm k hk);omega),List.map_id',sT hx ha hi]
 rfl
theorem tZ {s:GShow}{x:GState}(hx:aC s x=true){i:Nat}(hi:i<s.nodes.length)(hl:dA (br s i) x.values=1){l:Int}(hm:l∈br s i) :
  0≤aM s (pr l)∧aM s (pr l)<s.nodes.length∧tm x.times (aM s (pr l))≠-1∧tm x.times (aM s (pr l))+1≤x.now:=by
 have hR:=bD hx
 have h1:=(rJ.1 hl) l hm
 have hlo:=pP hR.ok hi
 rw [kG hi] at hm
 obtain ⟨p1,p2,p3⟩:=rm hlo.1 hm
 have p4:=tQ p2 p3
 have hne:tm x.values (pr l - 1)≠0:=by
  unfold litV at h1
  split at h1 <;> omega
 have hx2:=hx
 unfold aC at hx2
 simp only [Bool.and_eq_true,decide_eq_true_eq] at hx2
 have hw:=hx2.2 (pr l - 1).toNat (by unfold eW;omega)
 unfold kk at hw
 rw [show (((pr l - 1).toNat:Nat):Int)=pr l - 1 by omega] at hw
 change (decide (tm x.values (pr l - 1)≠0) == (decide (0≤aM s (pr l - 1+1))&&decide (tm x.times (aM s (pr l - 1+1))≠-1)))=true at hw
 rw [show pr l - 1+1=pr l by omega,decide_eq_true hne] at hw
 simp only [beq_iff_eq,Bool.true_eq,Bool.and_eq_true,decide_eq_true_eq] at hw
 obtain ⟨w1,w2⟩:=hw
 obtain ⟨j,hj,e,hq,_⟩:=fq (show 0≤aG s.nodes (fun n=>decide (n.watch=pr l)) from w1)
 have e':aM s (pr l)=(j:Int):=e
 refine ⟨w1,by rw [e'];omega,w2,?_⟩
 have hj0:j≠0:=by
  rintro rfl
  have:=(tX hR.ok).2 hj
  simp only [decide_eq_true_eq] at hq
  omega
 have htp:=hx2.1.2 j (by rw [hR.len];exact hj)
 unfold kF at htp
 rw [if_neg hj0,decide_eq_true_eq] at htp
 rw [e'];omega
theorem Mx {s:GShow}{c:GChoice}{x:GState}(hx:aC s x=true)(hc:aL s c=true)(hI:sW s c x)(ht:endL s x c∈cE s x){nodes:List Int}(hn:nodes∈decL s (endX s x (endL s x c))) :
  sW s c (obsX (decX (endX s x (endL s x c)) nodes) (aD s nodes) (df c.values (aD s nodes))):=by
 have hR:=bD hx
 have hok:=hR.ok
 obtain ⟨hh,_,ha⟩:=lJ hok ht
 have hM:=mb hx ht
 obtain ⟨_,_,hm⟩:=ik hM.right hn
 have hE:=Mp hx hh ht hn (df c.values (aD s nodes))
 have hT:=Jv hx ht hn (df c.values (aD s nodes))
 have heL:endL s x c=(actL s x).filter (fun k=>!endP s x c k):=by unfold endL;rw [if_pos ⟨hx,hc⟩]
 have hx2:=hx
 unfold aC at hx2
 simp only [Bool.and_eq_true,decide_eq_true_eq] at hx2
 have htp:∀ j:Nat,j<s.nodes.length→j≠0→tm x.times (j:Int)≤x.now - 1:=by
  intro j hj hj0
  have h5:=hx2.1.2 j (by rw [hR.len];exact hj)
  unfold kF at h5
  rw [if_neg hj0,decide_eq_true_eq] at h5
  exact h5.2
 have hV:(obsX (decX (endX s x (endL s x c)) nodes) (aD s nodes) (df c.values (aD s nodes))).values=setV (aD s nodes) ((aD s nodes).map (fun p=>tm c.values (p - 1))) x.values (aD s nodes).length:=rfl
 have hN:(obsX (decX (endX s x (endL s x c)) nodes) (aD s nodes) (df c.values (aD s nodes))).now=x.now+1:=rfl
 generalize hz:obsX (decX (endX s x (endL s x c)) nodes) (aD s nodes) (df c.values (aD s nodes))=z at *
 have newN:∀ i:Int,i∈nodes→∃ j:Nat,i=(j:Int)∧j<s.nodes.length∧0<j∧pO s (j:Int)<0∧dA (br s j) x.values=1:=by
  intro i hi
  obtain ⟨j,hj,hp,rfl⟩:=eY.1 (hm i hi)
  unfold enAt chAt opAt at hp
  simp only [Bool.and_eq_true,decide_eq_true_eq] at hp
  exact ⟨j,rfl,hj,hp.1.1,hp.1.2,hp.2.2⟩
 have newT:∀ i:Int,i∈(endL s x c).map (fun k=>(aI s k).to)→∃ k,∃ hk:k<s.ties.length,s.ties[k].free=true∧s.ties[k].to=i∧tm x.times s.ties[k].from_≠-1∧tm x.times i=-1∧¬ x.now - tm x.times s.ties[k].from_<eF s c (k:Int):=by
  intro i hi
  rw [List.mem_map] at hi
  obtain ⟨k,hk,rfl⟩:=hi
  obtain ⟨j,hj,rfl,h1,h2,h3⟩:=oE (ha k hk)
  rw [heL,List.mem_filter] at hk
  have h4:=hk.2
  unfold endP at h4
  rw [bO hj] at h4 ⊢
  simp only [Bool.not_eq_true',decide_eq_false_iff_not] at h4
  exact ⟨j,hj,h1,rfl,h2,h3,h4⟩
 have labN:∀ i:Nat,i<s.nodes.length→dA (br s i) x.values=1→dA (br s i) z.values=1:=by
  intro i hi hl
  have:=Mq hR hE (i:=(i:Int)) (by omega) (by omega) (by unfold AX;rw [decide_eq_true_eq];exact hl)
  unfold AX at this
  rw [decide_eq_true_eq] at this
  exact this
 have litN:∀ i:Nat,i<s.nodes.length→dA (br s i) x.values=1→x.now≤tm z.times (i:Int)→∀ l,l∈br s i→tm z.times (aM s (pr l))≠-1∧tm z.times (aM s (pr l))+1≤tm z.times (i:Int):=by
  intro i hi hl hnow l hm
  obtain ⟨w1,w2,w3,w4⟩:=tZ hx hi hl hm
  rw [hE.t1 _ w1 w2 w3]
  exact ⟨w3,by omega⟩
 have fromLab:∀ k (hk:k<s.ties.length),s.ties[k].free=true→tm x.times s.ties[k].from_≠-1→∀ i:Nat,s.ties[k].to=(i:Int)→dA (br s i) x.values=1:=by
  intro k hk hf hne i hi
  have hTk:=hR.right.tie _ (List.getElem_mem hk)
  have h1:=hI.lab s.ties[k].from_.toNat (by have:=hTk.f0;have:=hTk.f1;omega) (by rw [show ((s.ties[k].from_.toNat:Nat):Int)=s.ties[k].from_ by have:=hTk.f0;omega];exact hne)
  rw [← Ju hok hk hf,hi,Int.toNat_natCast] at h1
  exact h1
 refine ⟨?_,?_,?_,?_,?_,?_⟩
 ·intro k h1 h2 hne
  by_cases h0:tm x.values k=0
  ·rw [hV] at hne ⊢
   by_cases hin:∃ i,i<(aD s nodes).length∧(aD s nodes).getD i 0 - 1=k
   ·rw [Gg _ (bA hR.val).1 (fun p hp=>⟨(bv hp).1,(bv hp).2.1⟩) _ (Nat.le_refl _) k h1 hin]
    simp only [Int.add_sub_cancel]
   ·rw [sV (bA hR.val).1 (fun p hp=>⟨(bv hp).1,(bv hp).2.1⟩) _ (Nat.le_refl _) k h1 (fun i hi he=>hin ⟨i,hi,he⟩)] at hne
    exact absurd h0 hne
  ·rw [hE.v k h1 h0]
   exact hI.val k h1 h2 h0
 ·intro i hi hne
  refine labN i hi ?_
  rw [hT _ (by omega)] at hne
  by_cases h1:(i:Int)∈nodes
  ·obtain ⟨j,e,_,_,_,h2⟩:=newN _ h1
   obtain rfl:i=j:=by omega
   exact h2
  ·rw [if_neg h1] at hne
   by_cases h2:(i:Int)∈(endL s x c).map (fun k=>(aI s k).to)
   ·obtain ⟨k,hk,hf,e,h3,h4,_⟩:=newT _ h2
    exact fromLab k hk hf h3 i e
   ·rw [if_neg h2] at hne
    exact hI.lab i hi hne
 ·intro i hi hne l hl
  by_cases h1:(i:Int)∈nodes
  ·obtain ⟨j,e,_,_,_,h2⟩:=newN _ h1
   obtain rfl:i=j:=by omega
   exact litN i hi h2 (by rw [hT _ (by omega),if_pos h1];exact Int.le_refl _) l hl
  ·by_cases h2:(i:Int)∈(endL s x c).map (fun k=>(aI s k).to)
   ·obtain ⟨k,hk,hf,e,h3,h4,_⟩:=newT _ h2
    exact litN i hi (fromLab k hk hf h3 i e) (by rw [hT _ (by omega),if_neg h1,if_pos h2];exact Int.le_refl _) l hl
   ·have hne':tm x.times (i:Int)≠-1:=by rw [hT _ (by omega),if_neg h1,if_neg h2] at hne;exact hne
    obtain ⟨w3,w4⟩:=hI.lit i hi hne' l hl
    obtain ⟨w1,w2,_,_⟩:=tZ hx hi (hI.lab i hi hne') hl
    rw [hE.t1 _ w1 w2 w3,hE.t1 (i:Int) (by omega) (by omega) hne']
    exact ⟨w3,w4⟩
 ·intro i hi hf hne
  have hTi:=hR.right.tie _ (List.getElem_mem hi)
  have hfr:tm x.times s.ties[i].from_≠-1:=by
   rw [hT _ hTi.t0] at hne
   by_cases h1:s.ties[i].to∈nodes
   ·obtain ⟨j,e,hj,_,h3,_⟩:=newN _ h1
    have:=ib (xs:=s.ties) (q:=fun t=>t.free&&decide (t.to=(j:Int)))
    unfold pO at h3
    rw [decide_eq_false (by omega)] at this
    have h4:=this.symm
    rw [List.any_eq_false] at h4
    exact absurd (by rw [hf,decide_eq_true e];rfl) (h4 s.ties[i] (List.getElem_mem hi))
   ·rw [if_neg h1] at hne
    by_cases h2:s.ties[i].to∈(endL s x c).map (fun k=>(aI s k).to)
    ·obtain ⟨k,hk,hfk,e,h3,h4,_⟩:=newT _ h2
     obtain rfl:=tN hok hk hi hfk hf e
     exact h3
    ·rw [if_neg h2] at hne
     exact hI.ord i hi hf hne
  rw [hE.t1 _ hTi.f0 hTi.f1 hfr]
  exact hfr
 ·intro i hi hf hne hop
  have hTi:=hR.right.tie _ (List.getElem_mem hi)
  have hlen:=tY hc hok hi hf
  have hlow:=(gg hok hi hf).low
  have hop':tm x.times s.ties[i].to=-1:=by
   refine Classical.byContradiction (fun h1=>?_)
   rw [hE.t1 _ hTi.t0 hTi.t1 h1] at hop
   exact h1 hop
  rw [hN]
  by_cases hfr:tm x.times s.ties[i].from_=-1
  ·have:tm z.times s.ties[i].from_=x.now:=by
    rw [hT _ hTi.f0] at hne ⊢
    by_cases h1:s.ties[i].from_∈nodes
    ·rw [if_pos h1]
    ·rw [if_neg h1] at hne ⊢
     by_cases h2:s.ties[i].from_∈(endL s x c).map (fun k=>(aI s k).to)
     ·rw [if_pos h2]
     ·rw [if_neg h2] at hne;exact absurd hfr hne
   omega
  ·rw [hE.t1 _ hTi.f0 hTi.f1 hfr]
   have hact:(i:Int)∈actL s x:=by
    refine eY.2 ⟨i,hi,?_,rfl⟩
    unfold pq actT
    rw [List.getElem?_eq_getElem hi]
    simp only [Option.any_some,hf,Bool.true_and,decide_eq_true_eq]
    exact ⟨hfr,hop'⟩
   have hnot:¬ (i:Int)∈endL s x c:=by
    intro hin
    have:s.ties[i].to∈(endL s x c).map (fun k=>(aI s k).to):=List.mem_map.2 ⟨(i:Int),hin,by rw [bO hi]⟩
    have h1:=hT _ hTi.t0
    rw [if_pos this] at h1
    have h2:=hR.now
    split at h1 <;> omega
   have hlt:x.now - tm x.times s.ties[i].from_<eF s c (i:Int):=by
    refine Classical.byContradiction (fun h1=>hnot ?_)
    rw [heL,List.mem_filter]
    refine ⟨hact,?_⟩
    unfold endP
    rw [bO hi,decide_eq_false h1];rfl
   omega
 ·intro i hi hf hne
  have hTi:=hR.right.tie _ (List.getElem_mem hi)
  by_cases hto:tm x.times s.ties[i].to=-1
  ·have h0:=hT _ hTi.t0
   by_cases h1:s.ties[i].to∈nodes
   ·obtain ⟨j,e,hj,_,h3,_⟩:=newN _ h1
    have:=ib (xs:=s.ties) (q:=fun t=>t.free&&decide (t.to=(j:Int)))
    unfold pO at h3
    rw [decide_eq_false (by omega)] at this
    have h4:=this.symm
    rw [List.any_eq_false] at h4
    exact absurd (by rw [hf,decide_eq_true e];rfl) (h4 s.ties[i] (List.getElem_mem hi))
   ·rw [if_neg h1] at h0
    by_cases h2:s.ties[i].to∈(endL s x c).map (fun k=>(aI s k).to)
    ·rw [if_pos h2] at h0
     obtain ⟨k,hk,hfk,e,h3,h4,h5⟩:=newT _ h2
     obtain rfl:=tN hok hk hi hfk hf e
     have:=hI.act k hk hf h3 hto
     rw [h0,hE.t1 _ hTi.f0 hTi.f1 h3]
     omega
    ·rw [if_neg h2] at h0
     rw [h0] at hne
     exact absurd hto hne
  ·have hfr:=hI.ord i hi hf hto
   rw [hE.t1 _ hTi.t0 hTi.t1 hto,hE.t1 _ hTi.f0 hTi.f1 hfr]
   exact hI.fin i hi hf hto
theorem Gh (c:GChoice):∀ (n:Nat) (d:GDesk),fI d=true→aL d.show_ c=true→sW d.show_ c d.state→sW d.show_ c (runF c n d).1.state∧(runF c n d).1.show_=d.show_
 | 0,d,_,_,hI=>⟨hI,rfl⟩
 | n+1,d,hd,hc,hI=>by
  unfold runF
  by_cases h0:(bl c d).2.2=0
  ·rw [if_pos h0]
   unfold bl at h0 ⊢
   obtain ⟨hg,nd,hnd,he⟩:=tW h0
   have hmem:nd∈decL d.show_ (endX d.show_ d.state (endL d.show_ d.state c)):=by
    unfold tV at hnd
    exact (pR hnd).1
   rw [he]
   have h1:=Gd hg hmem
   have h2:=Mx (kx hd) hc hI (lM hg).2.2.1 hmem
   exact Gh c n _ h1 hc h2
  ·rw [if_neg h0]
   exact ⟨hI,rfl⟩
structure Done (s:GShow) (c:GChoice) (T:List Int):Prop where
 len:T.length=s.nodes.length
 root:tm T 0=0
 hap:∀ i:Nat,i<s.nodes.length→(tm T (i:Int)≠-1↔dA (br s i) c.values=1)
 hor:∀ i:Nat,i<s.nodes.length→-1≤tm T (i:Int)∧tm T (i:Int)≤s.horizon
 tie:∀ t,t∈s.ties→tm T t.from_≠-1→tm T t.to≠-1→t.low≤tm T t.to - tm T t.from_∧tm T t.to - tm T t.from_≤t.high
 fin:∀ i (hi:i<s.ties.length),s.ties[i].free=true→tm T s.ties[i].to≠-1→tm T s.ties[i].from_≠-1∧tm T s.ties[i].to - tm T s.ties[i].from_=eF s c (i:Int)
 lit:∀ i:Nat,i<s.nodes.length→tm T (i:Int)≠-1→∀ l,l∈br s i→0≤aM s (pr l)∧aM s (pr l)<s.nodes.length∧tm T (aM s (pr l))≠-1∧tm T (aM s (pr l))+1≤tm T (i:Int)
theorem La {l v:List Int}(h:dA l v=-1):∃ x,x∈l∧litV v x≤-1:=by
 have key:∀ (l:List Int) (o:Int),-1<o→l.foldl (fun o x=>if litV v x<o then litV v x else o) o=-1→∃ x,x∈l∧litV v x≤-1:=by
  intro l
  induction l with
  | nil=>intro o ho he;simp at he;omega
  | cons a l ih=>
   intro o ho he
   rw [List.foldl_cons] at he
   by_cases h1:litV v a≤-1
   ·exact ⟨a,by simp,h1⟩
   ·obtain ⟨x,hx,hl⟩:=ih (if litV v a<o then litV v a else o) (by split <;> omega) he
    exact ⟨x,by simp [hx],hl⟩
 exact key l 1 (by omega) h
theorem Jw {s:GShow}{c:GChoice}{x:GState}(hc:aL s c=true)(hI:sW s c x)(hd:oJ s x=true):Done s c x.times:=by
 unfold oJ at hd
 split at hd
 ·rename_i hx
  split at hd
  ·cases hd
  ·rename_i hb
   have hR:=bD hx
   have hok:=hR.ok
   have hx2:=hx
   unfold aC at hx2
   simp only [Bool.and_eq_true,decide_eq_true_eq] at hx2
   have cv:=qf hc
   have litEq:∀ i:Nat,i<s.nodes.length→∀ l,l∈br s i→litV x.values l≠0→litV x.values l=litV c.values l:=by
    intro i hi l hl hne
    have hlo:=pP hok hi
    rw [kG hi] at hl
    obtain ⟨p1,p2,p3⟩:=rm hlo.1 hl
    have p4:=tQ p2 p3
    unfold litV at hne ⊢
    have h1:tm x.values (pr l - 1)≠0:=by split at hne <;> omega
    rw [hI.val _ (by omega) (by omega) h1]
   refine ⟨hR.len,?_,?_,?_,?_,?_,?_⟩
   ·have h5:=hx2.1.2 0 (by rw [hR.len];have:=hR.right.node1;omega)
    unfold kF at h5
    rw [if_pos rfl,decide_eq_true_eq] at h5
    exact h5
   ·intro i hi
    constructor
    ·intro hne
     have h1:=hI.lab i hi hne
     rw [rJ] at h1 ⊢
     intro l hl
     have:=h1 l hl
     rw [← litEq i hi l hl (by omega)];exact this
    ·intro hl hne
     unfold kH at hd
     have h1:=List.all_eq_true.1 hd i (List.mem_range.2 hi)
     unfold vx at h1
     rw [decide_eq_true hne] at h1
     simp only [Bool.true_and,Bool.not_not,decide_eq_true_eq] at h1
     obtain ⟨l,hm,hlt⟩:=La h1
     have h2:=(rJ.1 hl) l hm
     rw [← litEq i hi l hm (by omega)] at h2
     omega
   ·intro i hi
    have h5:=hx2.1.2 i (by rw [hR.len];exact hi)
    unfold kF at h5
    have h6:=hR.now
    have h7:=hR.right.hor
    split at h5
    ·rename_i h0
     subst h0
     rw [decide_eq_true_eq] at h5
     rw [show ((0:Nat):Int)=0 from rfl,h5];omega
    ·rw [decide_eq_true_eq] at h5
     omega
   ·intro t ht h1 h2
    have hb':eG s x=false:=by simpa using hb
    unfold eG at hb'
    rw [Bool.or_eq_false_iff] at hb'
    have h3:=List.any_eq_false.1 hb'.1 t ht
    unfold late at h3
    rw [if_neg h1,if_neg h2] at h3
    simp only [Bool.not_eq_true,Bool.or_eq_false_iff,decide_eq_false_iff_not] at h3
    omega
   ·intro i hi hf hne
    exact ⟨hI.ord i hi hf hne,hI.fin i hi hf hne⟩
   ·intro i hi hne l hl
    obtain ⟨w1,w2,_,_⟩:=tZ hx hi (hI.lab i hi hne) hl
    obtain ⟨w3,w4⟩:=hI.lit i hi hne l hl
    exact ⟨w1,w2,w3,w4⟩
 ·cases hd
theorem Dy {s:GShow}{c:GChoice}{z:Bool}(hs:aA s=true)(hc:aL s c=true)(hd:oJ s (runR (eH s z).1 c).1.state=true):Done s c (runR (eH s z).1 c).1.state.times:=by
 have e:(eH s z).1=⟨s,ce s,z,[]⟩:=by unfold eH;rw [if_pos hs]
 have hdk:=Ge z hs
 rw [e] at hdk hd ⊢
 unfold runR at hd ⊢
 rw [if_pos hdk,if_pos hc] at hd ⊢
 obtain ⟨h1,h2⟩:=Gh c 13 _ hdk hc (KZ hs hc)
 exact Jw hc h1 hd
end Go.Proofs.Qf
set_option maxRecDepth 100000
set_option maxHeartbeats 1000000
namespace Go.Proofs.Qf
open Go Go.Lib
theorem Lb (l:List UInt8):bs (ofL l)=l:=by simp [bs,ofL]
theorem Dz (a b:ByteArray):bs (a++b)=bs a++bs b:=by
 unfold bs;rw [ByteArray.data_append,Array.toList_append]
theorem sX (s:ByteArray):s.size=(bs s).length:=by unfold bs;rw [Array.length_toList];rfl
def i64 (n:Int):Prop:=-9223372036854775808≤n∧n≤9223372036854775807
theorem DR {u:Nat}(h:¬ u<10):decDigits u=decDigits (u / 10)++[UInt8.ofNat (48+u % 10)]:=by rw [decDigits,dif_neg h]
theorem rK {u:Nat}(h:u<10):decDigits u=[UInt8.ofNat (48+u)]:=by rw [decDigits,dif_pos h]
theorem qg:∀ (k u:Nat),u<10^(k+1)→(decDigits u).length≤k+1
 | 0,u,h=>by rw [rK (by omega)];simp
 | k+1,u,h=>by
  by_cases h1:u<10
  ·rw [rK h1];simp
  ·rw [DR h1,List.length_append,List.length_singleton]
   have:=qg k (u / 10) (by rw [Nat.pow_succ] at h;omega)
   omega
theorem yM {n:Int}(h:i64 n):(itoa n).length≤20:=by
 have h1:=h.1
 have h2:=h.2
 unfold itoa;split
 ·have:=qg 18 n.natAbs (by omega)
  simp only [List.length_cons];omega
 ·have:=qg 18 n.toNat (by omega)
  omega
theorem sY {n:Int}(h:i64 n):dh n=some (ofL (itoa n)):=by
 unfold dh lW IC
 rw [if_pos (show -9223372036854775808≤n∧n≤9223372036854775807 from h)];rfl
def val (l:List UInt8):Nat:=l.foldl (fun a c=>a*10+(c.toNat - 48)) 0
end Go.Proofs.Qf
set_option maxRecDepth 100000
set_option maxHeartbeats 1000000
namespace Go.Proofs.Qf
open Go Go.Lib
theorem Gi {B:Nat}(sep:List UInt8)(xs:List (List UInt8))(h:∀ x,x∈xs→x.length≤B):(Lib.join xs sep).length≤xs.length*(B+sep.length):=by
 have key:∀ xs:List (List UInt8),(∀ x,x∈xs→x.length≤B)→(joinTail sep xs).length≤xs.length*(B+sep.length):=by
  intro xs
  induction xs with
  | nil=>intro _;simp [joinTail]
  | cons x r ih=>
   intro h
   have h1:=ih (fun y hy=>h y (by simp [hy]))
   have h2:=h x (by simp)
   simp only [joinTail,List.map_cons,List.flatten_cons,List.length_append,List.length_cons] at h1 ⊢
   rw [Nat.succ_mul];omega
 cases xs with
 | nil=>simp [Lib.join_nil]
 | cons x r=>
  rw [Lib.join_cons,List.length_append,List.length_cons,Nat.succ_mul]
  have h1:=key r (fun y hy=>h y (by simp [hy]))
  have h2:=h x (by simp)
  omega
def TT (l:List ByteArray)(sep:ByteArray):ByteArray:=ofL (Lib.join (l.map bs) (bs sep))
theorem Lc (l:List ByteArray)(sep:ByteArray)(h1:l.length≤1073741824)(h2:(Lib.join (l.map bs) (bs sep)).length≤1099511627776):jA l sep=some (TT l sep):=by
 unfold jA lX ID
 rw [if_pos ⟨by omega,by omega⟩];rfl
end Go.Proofs.Qf
