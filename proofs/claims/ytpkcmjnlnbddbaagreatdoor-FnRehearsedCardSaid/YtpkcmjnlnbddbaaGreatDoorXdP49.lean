/- The reference's game reckons winning too. Own work. -/
import Derived.Test.YtpkcmjnlnbddbaaGreatDoorXdP33
import Derived.Test.YtpkcmjnlnbddbaaGreatDoorXdP24
import Derived.Lib.AtoiAllCases
import Derived.Lib.IndexBytes
set_option linter.all false
set_option maxRecDepth 100000
namespace Go.Proofs.Qd
open Go
end Go.Proofs.Qd
set_option maxRecDepth 100000
namespace Go.Proofs.Qd
open Go
theorem DO {α:Type}{l:List α}{n:Nat}{x:α}(h:n<l.length):(l.set n x).take (n+1)=l.take n++[x]:=by
 have e:(l.set n x).take n=l.take n:=by
  apply List.ext_getElem?
  intro i
  rw [List.getElem?_take,List.getElem?_take]
  split
  ·rw [List.getElem?_set_ne (by omega)]
  ·rfl
 rw [cu (by simp;exact h),e]
 simp
theorem Lh {α:Type}{xs ys:List α}{i:Nat}(h:i+ys.length≤xs.length):(putL xs i ys).take i=xs.take i:=by
 unfold putL
 rw [if_pos h,List.append_assoc,List.take_append_of_le_length (by rw [List.length_take];omega),List.take_take]
 simp
theorem Li {α β ρ:Type}(xs:List α)(q:α→Bool)(I:β→Prop)(body:Int × β→Option (Step (Int × β) ρ))(rT:β→ρ)(rF:Int→β→ρ)
  (h1:∀ i (hi:i<xs.length) k,I k→∃ k',I k'∧body ((i:Int),k)=some (if q xs[i]=true then .done (rF (i:Int) k') else .next ((i:Int)+1,k')))
  (h2:∀ k,I k→body ((xs.length:Int),k)=some (.done (rT k))) (k:β) (hk:I k) :
  ∃ k',I k'∧ao body (0,k)=some (if 0≤aP xs q then rF (aP xs q) k' else rT k'):=by
 have key:=cw (body:=body) (s0:=((0:Int),k)) xs.length (fun i st=>st.1=(i:Int)∧I st.2∧∀ j (hj:j<xs.length),j<i→q xs[j]=false)
  (fun r=>∃ k',I k'∧r=(if 0≤aP xs q then rF (aP xs q) k' else rT k')) ⟨rfl,hk,fun j _ h=>absurd h (by omega)⟩ ?_ ?_
 ·obtain ⟨r,hr,hp⟩:=key
  obtain ⟨k',h3,rfl⟩:=hp
  exact ⟨k',h3,hr⟩
 ·rintro i ⟨a,k⟩ hi ⟨rfl,hI,hall⟩
  obtain ⟨k',hk',hb⟩:=h1 i hi k hI
  cases hq:q xs[i]
  ·rw [hq,if_neg (by simp)] at hb
   refine .inl ⟨_,hb,rfl,hk',fun j hj hlt=>?_⟩
   rcases Nat.lt_or_ge j i with h | h
   ·exact hall j hj h
   ·obtain rfl:j=i:=by omega
    exact hq
  ·rw [hq,if_pos rfl] at hb
   refine .inr ⟨_,hb,k',hk',?_⟩
   have:aP xs q=(i:Int):=by
    unfold aP
    have:xs.findIdx? q=some i:=by
     rw [List.findIdx?_eq_some_iff_getElem]
     exact ⟨hi,hq,fun j hj=>by simp [hall j (by omega) hj]⟩
    rw [this]
   rw [this,if_pos (by omega)]
 ·rintro ⟨a,k⟩ ⟨rfl,hI,hall⟩
  refine ⟨_,h2 k hI,k,hI,?_⟩
  rw [if_neg]
  intro h0
  obtain ⟨j,hj,_,hq,_⟩:=gw h0
  rw [hall j hj hj] at hq
  cases hq
theorem wu {α:Type}{xs:List α}{q:α→Bool}(h:¬ 0≤aP xs q):aP xs q=-1∧xs.any q=false:=by
 constructor
 ·unfold aP at h ⊢
  cases hf:xs.findIdx? q with
  | none=>rfl
  | some j=>rw [hf] at h;simp at h
 ·rw [← ig];exact decide_eq_false h
section
variable {s:GShow} {y:GState}
theorem OP (hs:bE s)(h:MomR s y){nodes:List Int}(hn:nodes∈decL s y){known:List (ByteArray × Bool)}(hk:cf s known) :
  ∃ known',cf s known'∧dS nodes s known y=some (!dd (win s) s y nodes,known'):=by
 obtain ⟨k',hk',e⟩:=zB (DN hs _ (by have:=h.now;omega)) h hn hk
 refine ⟨k',hk',?_⟩
 unfold dS lI
 rw [e];rfl
theorem DP (hs:bE s)(h:MomR s y)(xs:List (List Int))(hx:∀ nd,nd∈xs→nd∈decL s y)(hl:xs.length≤128){known:List (ByteArray × Bool)}(hk:cf s known) :
  ∃ known',cf s known'∧bi xs s known y=some (aP xs (fun nd=>!dd (win s) s y nd),xs,known'):=by
 unfold bi
 have key:=Li xs (fun nd=>!dd (win s) s y nd) (cf s) (bc ((xs.length:Nat):Int) xs s.nodes s.ties s.horizon y.now y.times y.values)
  (fun k=>.inl k) (fun i k=>.inr (i,xs,k)) ?_ ?_ known hk
 ·obtain ⟨k',hk',e⟩:=key
  rw [e]
  refine ⟨k',hk',?_⟩
  simp only [obnd]
  by_cases h0:0≤aP xs (fun nd=>!dd (win s) s y nd)
  ·rw [if_pos h0]
  ·rw [if_neg h0,(wu h0).1]
 ·intro i hi k hk
  obtain ⟨k',hk',e⟩:=OP hs h (hx _ (List.getElem_mem hi)) hk
  refine ⟨k',hk',?_⟩
  unfold bc
  try simp only
  rw [if_pos (by omega),aD hi]
  simp only [obnd]
  rw [show (GShow.mk s.nodes s.ties s.horizon)=s from rfl,show (GState.mk y.now y.times y.values)=y from rfl,e]
  simp only
  rw [wr (by omega) (by omega)]
  cases dd (win s) s y xs[i] <;> rfl
 ·intro k _
  unfold bc
  try simp only
  rw [if_neg (by omega)]
theorem Cl (hs:bE s)(h:MomR s y)(xs:List (List Int))(hx:∀ nd,nd∈xs→nd∈decL s y)(hl:xs.length≤128){known:List (ByteArray × Bool)}(hk:cf s known) :
  ∃ known',cf s known'∧bh xs s known y=some (xs.filter (fun nd=>dd (win s) s y nd),known'):=by
 obtain ⟨k1,hk1,e1⟩:=DP hs h xs hx hl hk
 have hfn:xs.filter (fun nd=>dd (win s) s y nd)=xs.filter (fun nd=>!(!dd (win s) s y nd)):=by simp
 rw [hfn]
 unfold bh
 rw [e1]
 simp only [obnd]
 generalize hq':(fun nd=>!dd (win s) s y nd)=q at *
 have hq:∀ nd,q nd=!dd (win s) s y nd:=fun nd=>by rw [← hq']
 have hff:(fun nd=>!(!dd (win s) s y nd))=(fun x=>!q x):=by funext nd;rw [hq]
 rw [hff]
 by_cases h0:0≤aP xs q
 ·obtain ⟨i0,hi0,he,hq0,hno⟩:=gw h0
  rw [he,if_neg (by omega),wr (x:=(i0:Int)+1) (by omega) (by omega)]
  have htake:(xs.take i0).filter (fun x=>!q x)=xs.take i0:=by
   rw [List.filter_eq_self]
   intro x hm
   obtain ⟨j,hj,rfl⟩:=List.getElem_of_mem hm
   rw [List.length_take] at hj
   rw [List.getElem_take,hno j (by omega)];rfl
  have inv:∃ r,ao (bb xs.length s.nodes s.ties s.horizon y.now y.times y.values) ((i0:Int),(i0:Int)+1,xs,k1)=some r∧(r.1=(((xs.filter (fun x=>!q x)).length:Nat):Int)∧r.2.1.length=xs.length∧r.2.1.take (xs.filter (fun x=>!q x)).length=xs.filter (fun x=>!q x)∧cf s r.2.2):=by
   refine cw (xs.length - (i0+1)) (fun (k:Nat) (s':Int × Int × List (List Int) × List (ByteArray × Bool))=>s'.2.1=((i0+1+k:Nat):Int)∧s'.1=((((xs.take (i0+1+k)).filter (fun x=>!q x)).length:Nat):Int)∧s'.2.2.1.length=xs.length ∧
    s'.2.2.1.take ((xs.take (i0+1+k)).filter (fun x=>!q x)).length=(xs.take (i0+1+k)).filter (fun x=>!q x)∧(∀ j,i0+1+k≤j→s'.2.2.1[j]?=xs[j]?)∧((xs.take (i0+1+k)).filter (fun x=>!q x)).length<i0+1+k∧cf s s'.2.2.2) _ ?_ ?_ ?_
   ·have e1:(xs.take (i0+1)).filter (fun x=>!q x)=xs.take i0:=by
     rw [cu hi0,List.filter_append,htake]
     simp [hq0]
    have hl:(xs.take i0).length=i0:=by rw [List.length_take];omega
    refine ⟨by simp only;omega,?_,rfl,?_,fun _ _=>rfl,?_,hk1⟩
    ·simp only [Nat.add_zero];rw [e1,hl]
    ·simp only [Nat.add_zero];rw [e1,hl]
    ·simp only [Nat.add_zero];rw [e1,hl];omega
   ·rintro k ⟨v5,v6,v0,kn⟩ hk ⟨h1,h2,h3,h4,h5,h6,h7⟩
    simp only at h1 h2 h3 h4 h5 h6 h7
    have hj:i0+1+k<xs.length:=by omega
    have hg:getI v0 v6=some xs[i0+1+k]:=by
     unfold getI
     rw [h1,if_pos (by omega),Int.toNat_natCast,h5 _ (Nat.le_refl _),List.getElem?_eq_getElem hj]
    obtain ⟨kn',hkn',ec⟩:=OP hs h (hx _ (List.getElem_mem hj)) h7
    left
    unfold bb
    simp only
    rw [if_pos (by omega),an (by omega),hg,wr (x:=v6+1) (by omega) (by omega)]
    simp only [obnd]
    rw [show (GShow.mk s.nodes s.ties s.horizon)=s from rfl,show (GState.mk y.now y.times y.values)=y from rfl,ec,← hq]
    simp only
    cases hqq:q xs[i0+1+k]
    ·have e2:(xs.take (i0+1+(k+1))).filter (fun x=>!q x)=(xs.take (i0+1+k)).filter (fun x=>!q x)++[xs[i0+1+k]]:=by
      rw [show i0+1+(k+1)=i0+1+k+1 by omega,cu hj,List.filter_append]
      simp [hqq]
     have hv5:getI v0 v5=some v0[((xs.take (i0+1+k)).filter (fun x=>!q x)).length]:=by rw [h2,aD (by omega)]
     rw [if_neg (by simp),an (by omega),hv5,wr (x:=v5+1) (by omega) (by omega)]
     refine ⟨_,rfl,by simp only;omega,?_,?_,?_,?_,?_,hkn'⟩
     ·simp only;rw [e2,List.length_append,h2];simp
     ·simp only [List.length_set];exact h3
     ·simp only;rw [e2,List.length_append,h2,Int.toNat_natCast]
      simp only [List.length_cons,List.length_nil,Nat.zero_add]
      rw [DO (by omega),h4]
     ·intro j hj'
      simp only
      rw [h2,Int.toNat_natCast,List.getElem?_set_ne (by omega)]
      exact h5 j (by omega)
     ·rw [e2,List.length_append];simp;omega
    ·have e2:(xs.take (i0+1+(k+1))).filter (fun x=>!q x)=(xs.take (i0+1+k)).filter (fun x=>!q x):=by
      rw [show i0+1+(k+1)=i0+1+k+1 by omega,cu hj,List.filter_append]
      simp [hqq]
     rw [if_pos rfl]
     refine ⟨_,rfl,by simp only;omega,?_,h3,?_,fun j hj'=>h5 j (by omega),?_,hkn'⟩
     ·simp only;rw [e2];exact h2
     ·simp only;rw [e2];exact h4
     ·rw [e2];omega
   ·rintro ⟨v5,v6,v0,kn⟩ ⟨h1,h2,h3,h4,h5,h6,h7⟩
    simp only at h1 h2 h3 h4 h7
    have hall:i0+1+(xs.length - (i0+1))=xs.length:=by omega
    rw [hall] at h1 h2 h4
    rw [List.take_length] at h2 h4
    unfold bb
    simp only
    rw [if_neg (by omega)]
    exact ⟨_,rfl,h2,h3,h4,h7⟩
  obtain ⟨⟨v5,v0,kn⟩,hr,h1,h2,h3,h4⟩:=inv
  rw [hr]
  simp only at h1 h2 h3 h4 ⊢
  have hle:=List.length_filter_le (fun x=>!q x) xs
  subst h1
  simp only [Int.toNat_natCast]
  rw [an (by omega),an (by omega),an (by omega),an (by omega),an (by rw [zl];omega),an (by omega),Lh (by rw [List.length_replicate];omega),h3]
  exact ⟨kn,h4,rfl⟩
 ·obtain ⟨h2,h1⟩:=wu h0
  rw [if_pos h2,an (Nat.le_refl _),List.take_length]
  refine ⟨k1,hk1,?_⟩
  congr 2
  symm
  rw [List.filter_eq_self]
  intro x hm
  rw [List.any_eq_false] at h1
  have:=h1 x hm
  cases hqx:q x
  ·rfl
  ·exact absurd hqx this
theorem Od (hs:bE s)(h:MomR s y){known:List (ByteArray × Bool)}(hk:cf s known) :
  ∃ known',cf s known'∧iH s known y=some ((decL s y).filter (dd (win s) s y),known'):=by
 obtain ⟨k',hk',e⟩:=Cl hs h (decL s y) (fun _ h=>h) (uy h.right y) hk
 refine ⟨k',hk',?_⟩
 unfold iH
 rw [rB hs h]
 simp only [obnd]
 rw [e]
end
def uD (lazy:Bool)(l:List (List Int))(p:List Int→Bool):Option (List Int):=if lazy=true then l.reverse.find? p else l.find? p
theorem Oe (l:List (List Int))(p:List Int→Bool)(lazy:Bool)(hl:l.length≤128) :
  lJ (l.filter p) lazy=some (match uD lazy l p with | some nd=>(nd,true) | none=>([],false)):=by
 have hle:=List.length_filter_le p l
 unfold lJ uD
 have e1:l.find? p=(l.filter p).head?:=(List.head?_filter).symm
 have e2:l.reverse.find? p=(l.filter p).getLast?:=by rw [← List.head?_filter,List.filter_reverse,List.head?_reverse]
 rw [e1,e2]
 generalize l.filter p=m at *
 by_cases h0:m=[]
 ·subst h0
  rw [if_pos (by simp)]
  cases lazy <;> rfl
 ·have hpos:0<m.length:=List.length_pos_iff.2 h0
  rw [if_neg (by omega)]
  cases lazy
  ·simp only [Bool.false_eq_true,if_false]
   have:getI m ((0:Nat):Int)=some m[0]:=aD hpos
   rw [show ((0:Nat):Int)=0 from rfl] at this
   rw [this,List.head?_eq_getElem?,List.getElem?_eq_getElem hpos];rfl
  ·simp only [if_true]
   rw [wr (by omega) (by omega),show ((m.length:Nat):Int) - 1=((m.length - 1:Nat):Int) by omega,aD (by omega),List.getLast?_eq_getElem?,List.getElem?_eq_getElem (by omega)];rfl
end Go.Proofs.Qd
set_option maxRecDepth 100000
namespace Go.Proofs.Qd
open Go
theorem Lj (log:List aw)(hl:log.length≤1048576)(he:∀ e,e∈log→FitE e):kb log=some log:=by
 unfold kb
 have key:ao (gV log ((log.length:Nat):Int)) (((0:Nat):Int),log.take 0)=some log:=by
  refine aW log.length (fun i=>((i:Int),log.take i)) ?_ ?_
  ·intro i hi
   have hf:=he _ (List.getElem_mem hi)
   unfold gV
   try simp only
   rw [if_pos (by omega),aD hi]
   simp only [obnd]
   rw [gK _ hf.ties,gK _ hf.nodes,gK _ hf.values]
   simp only
   rw [an (by rw [List.length_take];omega),an (by rw [List.length_take];omega),wr (by omega) (by omega),List.take_succ_eq_append_getElem hi];rfl
  ·unfold gV
   try simp only
   rw [if_neg (by omega),List.take_length]
 simp only [Int.natCast_zero,List.take_zero] at key
 rw [key];rfl
theorem zC (d:GDesk)(h:FitD d):gO d=some d:=by
 unfold gO
 rw [sL _ h.sh]
 simp only [obnd]
 rw [oP _ h.st.times h.st.values]
 simp only
 rw [Lj _ h.log h.entry]
def pmB (values:List Int):Bool:=decide (values.length=3)&&values.all (fun v=>decide (v=1) || decide (v=-1))
noncomputable def de (d:GDesk)(ties values:List Int):Int:=
 if dn d=true then (if pmB values=true then (if iw d.show_ d.state=true then 2 else if mV d.show_ d.state=true then 2 else if d.show_.horizon<d.state.now then 2 else if ties∈cg d.show_ d.state then 0 else 3) else 1) else 1
def df (values ps:List Int):List Int:=ps.map (fun p=>tm values (p - 1))
def litL (values ps:List Int):List Int:=ps.map (fun p=>p*tm values (p - 1))
noncomputable def finD (d:GDesk)(ties values nodes:List Int):GDesk:=
 ⟨d.show_,obsX (decX (endX d.show_ d.state ties) nodes) (aL d.show_ nodes) (df values (aL d.show_ nodes)),d.lazy,d.log++[⟨d.state.now,ties,nodes,litL values (aL d.show_ nodes)⟩]⟩
noncomputable def mW (d:GDesk)(ties values:List Int)(refused:Int)(c:Option (List Int)):GDesk × List Int × Int:=
 if de d ties values=0 then (match c with | some nd=>(finD d ties values nd,nd,0) | none=>(d,[],refused)) else (d,[],de d ties values)
theorem lM {d:GDesk}(h:dn d=true):aI d.show_ d.state=true:=by
 unfold dn at h
 simp only [Bool.and_eq_true] at h
 exact h.1.1.1
theorem nH {d:GDesk}{ties values:List Int}(h:de d ties values=0):dn d=true∧pmB values=true∧ties∈cg d.show_ d.state∧iw d.show_ d.state=false∧mV d.show_ d.state=false∧¬ d.show_.horizon<d.state.now:=by
 unfold de at h
 split at h
 ·rename_i h1
  split at h
  ·rename_i h2
   split at h
   ·omega
   ·rename_i h3
    split at h
    ·omega
    ·rename_i h4
     split at h
     ·omega
     ·rename_i h5
      split at h
      ·rename_i h6
       exact ⟨h1,h2,h6,by simpa using h3,by simpa using h4,h5⟩
      ·omega
  ·omega
 ·omega
theorem Of {values:List Int}(h:pmB values=true):values.length=3∧∀ v,v∈values→v=1∨v=-1:=by
 unfold pmB at h
 rw [Bool.and_eq_true,decide_eq_true_eq,List.all_eq_true] at h
 exact ⟨h.1,fun v hv=>by have:=h.2 v hv;simpa using this⟩
theorem Lk {values:List Int}(h:pmB values=true){k:Int}(h0:0≤k)(h1:k<3):tm values k=1∨tm values k=-1:=by
 obtain ⟨h2,h3⟩:=Of h
 unfold tm
 rw [List.getElem?_eq_getElem (show k.toNat<values.length by omega)]
 exact h3 _ (List.getElem_mem _)
theorem TZ {values:List Int}(h3:values.length=3):values.any (fun v=>!(decide (v=1) || decide (v=-1)))=!pmB values:=by
 unfold pmB
 rw [decide_eq_true h3,Bool.true_and,List.any_eq_not_all_not]
 simp
theorem HR (v:Int):fN v=some (!(decide (v=1) || decide (v=-1))):=by
 unfold fN
 by_cases h:v=1
 ·rw [if_pos h,decide_eq_true h];rfl
 ·rw [if_neg h,decide_eq_false h]
  by_cases h2:v=-1
  ·rw [decide_eq_true h2,decide_eq_false (by simpa using h2)];rfl
  ·rw [decide_eq_false h2,decide_eq_true h2];rfl
theorem Jb {values ps:List Int}(hv:pmB values=true)(hp:∀ p,p∈ps→1≤p∧p≤3)(hl:ps.length≤3):jp ps (df values ps)=some (litL values ps):=by
 unfold jp
 have key:ao (gG (df values ps) ps ((ps.length:Nat):Int)) (((0:Nat):Int),litL values (ps.take 0))=some (litL values ps):=by
  refine aW ps.length (fun i=>((i:Int),litL values (ps.take i))) ?_ ?_
  ·intro i hi
   have hb:=hp _ (List.getElem_mem hi)
   have ht:=Lk hv (k:=ps[i] - 1) (by omega) (by omega)
   have hl1:(litL values (ps.take i)).length≤3:=by unfold litL;rw [List.length_map,List.length_take];omega
   have hsl:(df values ps).length=ps.length:=by unfold df;simp
   unfold gG
   try simp only
   rw [if_pos (by omega),aD hi,aD (show i<(df values ps).length by omega)]
   simp only [obnd]
   have hs:(df values ps)[i]'(by omega)=tm values (ps[i] - 1):=by unfold df;simp
   rw [hs,an (by omega),an (by omega),wr (x:=(i:Int)+1) (by omega) (by omega),wr (x:=ps[i]*tm values (ps[i] - 1)) (by rcases ht with h | h <;> rw [h] <;> omega) (by rcases ht with h | h <;> rw [h] <;> omega)]
   congr 3
   unfold litL
   rw [List.take_succ_eq_append_getElem hi,List.map_append];rfl
  ·unfold gG
   try simp only
   rw [if_neg (by omega),List.take_length]
 simp only [Int.natCast_zero,List.take_zero] at key
 rw [show litL values []=[] from rfl] at key
 rw [key];rfl
theorem Cm {values ps:List Int}(hv:pmB values=true)(hp:∀ p,p∈ps→1≤p∧p≤3):(df values ps).length=ps.length∧∀ v,v∈df values ps→v=1∨v=-1:=by
 refine ⟨by unfold df;simp,fun v hm=>?_⟩
 unfold df at hm
 rw [List.mem_map] at hm
 obtain ⟨p,hpm,rfl⟩:=hm
 have:=hp p hpm
 exact Lk hv (by omega) (by omega)
theorem wv (d:GDesk)(ties values:List Int)(refused:Int)(d':GDesk)(hf:FitD d)(ht:ties.length≤1048576)(hvl:values.length≤1048576)(c:Option (List Int))(hmem:∀ nd,c=some nd→nd∈decL d.show_ (endX d.show_ d.state ties))
  (hc:de d ties values=0→∃ r,gF d.show_ [] (endX d.show_ d.state ties) d'=some r∧r.2.1=c.isSome∧∀ nd,c=some nd→r.1=nd) :
  bH d ties values refused d'=some (mW d ties values refused c):=by
 have hs:=hf.sh.small
 have hlog:=hf.log
 have hg0:=@nH d ties values
 unfold mW
 unfold bH
 rw [zC d hf]
 simp only [obnd]
 rw [zw d hf]
 simp only
 cases hd:dn d
 ·have e:de d ties values=1:=by unfold de;rw [hd];rfl
  rw [e];rfl
 have hx:=lM hd
 have hR:=ch hx
 simp only [if_true]
 by_cases h3:values.length=3
 rotate_left
 ·have e:de d ties values=1:=by unfold de pmB;rw [hd,decide_eq_false h3];rfl
  rw [if_neg (by omega),e];rfl
 rw [if_pos (by omega),kJ values _ (fun v=>!(decide (v=1) || decide (v=-1))) (by unfold Cnt;omega) (fun v _=>HR v),TZ h3]
 simp only
 cases hp:pmB values
 ·have e:de d ties values=1:=by unfold de;rw [hd,hp];rfl
  rw [e];rfl
 simp only [Bool.not_true,Bool.false_eq_true,if_false]
 rw [zx hs hR]
 simp only
 cases hb:iw d.show_ d.state
 rotate_left
 ·have e:de d ties values=2:=by unfold de;rw [hd,hp,hb];rfl
  rw [e];rfl
 simp only [Bool.false_eq_true,if_false]
 rw [uA hs hR]
 simp only
 cases ho:mV d.show_ d.state
 rotate_left
 ·have e:de d ties values=2:=by unfold de;rw [hd,hp,hb,ho];rfl
  rw [e];rfl
 simp only [Bool.false_eq_true,if_false]
 by_cases hh:d.show_.horizon<d.state.now
 ·have e:de d ties values=2:=by unfold de;rw [hd,hp,hb,ho,if_pos hh];rfl
  rw [if_pos hh,e];rfl
 rw [if_neg hh,uw hx]
 simp only
 have hel:=wj (x:=d.state) hR.ok
 rw [zV _ _ (by unfold Cnt;omega) (by unfold Cnt;omega)]
 simp only
 by_cases hm:ties∈cg d.show_ d.state
 rotate_left
 ·have e:de d ties values=3:=by unfold de;rw [hd,hp,hb,ho,if_neg hh,if_neg hm];rfl
  rw [decide_eq_false hm,e];rfl
 have e:de d ties values=0:=by unfold de;rw [hd,hp,hb,ho,if_neg hh,if_pos hm];rfl
 obtain ⟨a1,a2,a3⟩:=jy hR.ok hm
 have hM:=kq hx hm
 have hv3:=(bK hR.val).1
 rw [decide_eq_true hm,if_pos rfl,zW hx (by omega) (by omega) a3]
 simp only
 unfold iu
 simp only
 obtain ⟨r,e1,e2,e3⟩:=hc e
 rw [e1,e]
 simp only [if_true]
 rw [e2]
 cases c with
 | none=>rfl
 | some nd=>
  have hn:=hmem nd rfl
  obtain ⟨n1,n2,n3⟩:=fG hM.right hn
  have hps:∀ p,p∈aL d.show_ nd→1≤p∧p≤3:=fun p hp=>⟨(bU hp).1,(bU hp).2.1⟩
  have hpl:=sm d.show_ nd
  simp only [Option.isSome_some,if_true]
  rw [e3 nd rfl,uz hM n1 n2 n3]
  simp only
  have key:ao (bg ties values nd (((aL d.show_ nd).length:Nat):Int) d.show_.horizon d.state.now d.lazy d.state.now d.state.times d.state.values (decX (endX d.show_ d.state ties) nd).now d.show_.nodes d.show_.ties d.state.times d.state.values d.log (decX (endX d.show_ d.state ties) nd).times (decX (endX d.show_ d.state ties) nd).values (aL d.show_ nd)) (((0:Nat):Int),df values ((aL d.show_ nd).take 0))=some (df values (aL d.show_ nd)):=by
   refine aW (aL d.show_ nd).length (fun i=>((i:Int),df values ((aL d.show_ nd).take i))) ?_ ?_
   ·intro i hi
    have hb:=hps _ (List.getElem_mem hi)
    have hsl:(df values ((aL d.show_ nd).take i)).length≤3:=by unfold df;rw [List.length_map,List.length_take];omega
    unfold bg
    try simp only
    rw [if_pos (by omega),aD hi]
    simp only [obnd]
    rw [wr (x:=(aL d.show_ nd)[i] - 1) (by omega) (by omega),fB (by omega) (by omega)]
    simp only
    rw [an (by omega),an (by omega),wr (by omega) (by omega)]
    congr 3
    unfold df
    rw [List.take_succ_eq_append_getElem hi,List.map_append];rfl
   ·unfold bg
    try simp only
    rw [if_neg (by omega),List.take_length]
  simp only [Int.natCast_zero,List.take_zero] at key
  rw [show df values []=[] from rfl] at key
  rw [key]
  simp only
  obtain ⟨s1,s2⟩:=Cm hp hps
  have hnow:=hR.now
  have hhor:=hR.right.hor
  have hln:=hM.len
  have h7:=hM.right.nodes
  rw [(sM (decX (endX d.show_ d.state ties) nd) (aL d.show_ nd) (df values (aL d.show_ nd)) (by show 0≤d.state.now∧d.state.now≤1000;omega) (by show (bW _ _ _ _).length≤_;rw [fi];omega) hv3 hps s1 (by omega)).1]
  simp only
  rw [gK _ ht,gK _ (by omega),Jb hp hps hpl]
  simp only
  rw [an (by omega),an (by omega)]
  rfl
end Go.Proofs.Qd
set_option maxRecDepth 100000
namespace Go.Proofs.Qd
open Go
end Go.Proofs.Qd
set_option maxRecDepth 100000
namespace Go.Proofs.Qd
open Go
noncomputable def xJ (d:GDesk)(ties:List Int):Option (List Int):=uD d.lazy (decL d.show_ (endX d.show_ d.state ties)) (dd (win d.show_) d.show_ (endX d.show_ d.state ties))
theorem qi {lazy:Bool}{l:List (List Int)}{p:List Int→Bool}{nd:List Int}(h:uD lazy l p=some nd):nd∈l∧p nd=true:=by
 unfold uD at h
 split at h
 ·exact ⟨by simpa using List.mem_of_find?_eq_some h,List.find?_some h⟩
 ·exact ⟨List.mem_of_find?_eq_some h,List.find?_some h⟩
theorem FD (d:GDesk)(ties values:List Int)(hf:FitD d)(ht:ties.length≤1048576)(hv:values.length≤1048576):jq d ties values=some (mW d ties values 5 (xJ d ties)):=by
 have hs:=hf.sh.small
 unfold jq
 rw [wv d ties values 5 d hf ht hv (xJ d ties) (fun nd h=>(qi h).1) ?_]
 ·rfl
 ·intro h0
  obtain ⟨g1,_,g3,_⟩:=nH h0
  have hM:=kq (lM g1) g3
  have hl:=uy hM.right (endX d.show_ d.state ties)
  unfold gF xJ
  cases hz:d.lazy
  ·simp only [Bool.false_eq_true,if_false]
   obtain ⟨k',_,e⟩:=Cj hs (y:=endX d.show_ d.state ties) (DN hs _ (by have:=hM.now;omega)) hM (wq d.show_)
   unfold mt
   rw [e]
   simp only [obnd]
   refine ⟨_,rfl,?_⟩
   unfold uD
   simp only [Bool.false_eq_true,if_false]
   cases (decL d.show_ (endX d.show_ d.state ties)).find? (dd (win d.show_) d.show_ (endX d.show_ d.state ties)) with
   | none=>exact ⟨rfl,fun nd h=>by cases h⟩
   | some nd=>exact ⟨rfl,fun nd' h=>by cases h;rfl⟩
  ·simp only [if_true]
   obtain ⟨k',_,e⟩:=Od hs hM (wq d.show_)
   rw [e]
   simp only [obnd]
   rw [Oe _ _ _ hl]
   simp only
   refine ⟨_,rfl,?_⟩
   cases uD true (decL d.show_ (endX d.show_ d.state ties)) (dd (win d.show_) d.show_ (endX d.show_ d.state ties)) with
   | none=>exact ⟨rfl,fun nd h=>by cases h⟩
   | some nd=>exact ⟨rfl,fun nd' h=>by cases h;rfl⟩
theorem MJ (d:GDesk)(ties values:List Int)(refused:Int)(c:Option (List Int))(hf:FitD d)(ht:ties.length≤1048576)(hc:de d ties values=0→∀ nd,c=some nd→nd∈decL d.show_ (endX d.show_ d.state ties)) :
  FitD (mW d ties values refused c).1∧(mW d ties values refused c).2.1.length≤7:=by
 unfold mW
 by_cases h0:de d ties values=0
 ·rw [if_pos h0]
  cases c with
  | none=>exact ⟨hf,by simp⟩
  | some nd=>
   obtain ⟨g1,hp,g3,_⟩:=nH h0
   have hx:=lM g1
   have hR:=ch hx
   have hM:=kq hx g3
   have hnd:=hc h0 nd rfl
   obtain ⟨n1,n2,n3⟩:=fG hM.right hnd
   have hlog:(d.log.length:Int)=d.state.now:=by
    unfold dn at g1
    simp only [Bool.and_eq_true,decide_eq_true_eq] at g1
    exact g1.1.1.2
   have hnow:=hR.now
   have hhor:=hR.right.hor
   have hln:=hM.len
   have h7:=hM.right.nodes
   have hv3:=(bK hR.val).1
   have hpl:=sm d.show_ nd
   refine ⟨⟨hf.sh,⟨?_,?_⟩,?_,?_⟩,n2⟩
   ·show (bW _ _ _ _).length≤_
    rw [fi];omega
   ·show (setV _ _ _ _).length≤_
    rw [lL]
    show d.state.values.length≤_
    omega
   ·show (d.log++[_]).length≤_
    rw [List.length_append];simp;omega
   ·intro e he
    have he':e∈d.log++[⟨d.state.now,ties,nd,litL values (aL d.show_ nd)⟩]:=he
    rw [List.mem_append,List.mem_singleton] at he'
    rcases he' with he' | rfl
    ·exact hf.entry e he'
    ·exact ⟨ht,by show nd.length≤_;omega,by show (litL _ _).length≤_;unfold litL;rw [List.length_map];omega⟩
 ·rw [if_neg h0]
  exact ⟨hf,by simp⟩
end Go.Proofs.Qd
set_option maxRecDepth 100000
namespace Go.Proofs.Qd
open Go
end Go.Proofs.Qd
set_option maxRecDepth 100000
set_option maxHeartbeats 1000000
namespace Go.Proofs.Qd
open Go
noncomputable def bD (c:GChoice)(d:GDesk):GDesk × List Int × Int:=mW d (endL d.show_ d.state c) c.values 5 (xJ d (endL d.show_ d.state c))
noncomputable def runF (c:GChoice):Nat→GDesk→GDesk × Int
 | 0,d=>(d,0)
 | n+1,d=>if (bD c d).2.2=0 then runF c n (bD c d).1 else (d,(bD c d).2.2)
noncomputable def runR (d:GDesk)(c:GChoice):GDesk × Int:=if dn d=true then (if bX d.show_ c=true then runF c 13 d else (d,1)) else (d,1)
def tupD (d:GDesk):Int × Int × Bool × (List GNode) × (List GTie) × (List Int) × (List Int) × (List aw):=(d.show_.horizon,d.state.now,d.lazy,d.show_.nodes,d.show_.ties,d.state.times,d.state.values,d.log)
theorem FE {s:GShow}{c:GChoice}(h:bX s c=true):c.values.length=3:=by
 unfold bX at h
 simp only [Bool.and_eq_true,decide_eq_true_eq] at h
 exact h.1.1.2
theorem Cn {d:GDesk}{ties values:List Int}{c:Option (List Int)}(h:(mW d ties values 5 c).2.2=0):de d ties values=0∧∃ nd,c=some nd∧mW d ties values 5 c=(finD d ties values nd,nd,0):=by
 unfold mW at h ⊢
 by_cases h0:de d ties values=0
 ·rw [if_pos h0] at h ⊢
  cases c with
  | none=>exact absurd h (by simp)
  | some nd=>exact ⟨h0,nd,rfl,rfl⟩
 ·rw [if_neg h0] at h
  exact absurd h h0
theorem MK {d:GDesk}{ties values nd:List Int}(h0:de d ties values=0)(hn:nd∈decL d.show_ (endX d.show_ d.state ties)):aI d.show_ (finD d ties values nd).state=true:=by
 obtain ⟨g1,hp,g3,_⟩:=nH h0
 have hM:=kq (lM g1) g3
 obtain ⟨_,_,hm⟩:=fG hM.right hn
 obtain ⟨s1,s2⟩:=Cm (values:=values) (ps:=aL d.show_ nd) hp (fun p h=>⟨(bU h).1,(bU h).2.1⟩)
 exact wn hM hm s1 s2
theorem HS {c:GChoice}{d:GDesk}(hf:FitD d)(h:(bD c d).2.2=0) :
  FitD (bD c d).1∧(bD c d).1.show_=d.show_∧aI d.show_ (bD c d).1.state=true∧(bD c d).1.state.now=d.state.now+1:=by
 unfold bD at h ⊢
 obtain ⟨h0,nd,hc,he⟩:=Cn h
 have hl:=HF d.show_ d.state c hf.sh.ties
 have hnd:nd∈decL d.show_ (endX d.show_ d.state (endL d.show_ d.state c)):=(qi hc).1
 have hfit:=(MJ d (endL d.show_ d.state c) c.values 5 (xJ d (endL d.show_ d.state c)) hf hl (fun _ nd h=>(qi h).1)).1
 rw [he] at hfit ⊢
 exact ⟨hfit,rfl,MK h0 hnd,rfl⟩
theorem PW (c:GChoice)(body:(Int × Int × Bool × (List GNode) × (List GTie) × (List Int) × (List Int) × (List aw))→Option (Step (Int × Int × Bool × (List GNode) × (List GTie) × (List Int) × (List Int) × (List aw)) (GDesk × Int)))
  (hb:∀ d,FitD d→aI d.show_ d.state=true→bX d.show_ c=true→body (tupD d)=some (if (bD c d).2.2=0 then .next (tupD (bD c d).1) else .done (d,(bD c d).2.2))) :
  ∀ (n:Nat) (d:GDesk),FitD d→aI d.show_ d.state=true→bX d.show_ c=true→12<(n:Int)+d.state.now→ao body (tupD d)=some (runF c n d):=by
 intro n
 induction n with
 | zero=>
  intro d hf hx hc h
  have:=(ch hx).now
  have:=(ch hx).right.hor
  omega
 | succ n ih=>
  intro d hf hx hc h
  rw [bd,hb d hf hx hc]
  show _=some (if (bD c d).2.2=0 then runF c n (bD c d).1 else (d,(bD c d).2.2))
  by_cases h0:(bD c d).2.2=0
  ·obtain ⟨f1,f2,f3,f4⟩:=HS hf h0
   rw [if_pos h0,if_pos h0]
   exact ih _ f1 (by rw [f2];exact f3) (by rw [f2];exact hc) (by rw [f4];omega)
  ·rw [if_neg h0,if_neg h0]
theorem HT (d:GDesk)(c:GChoice)(hf:FitD d):kg d c=some (runR d c):=by
 unfold kg runR
 rw [zC d hf]
 simp only [obnd]
 rw [zw d hf]
 simp only
 cases hD:dn d
 ·rw [if_neg (by simp),if_neg (by simp)]
 ·have hx:=lM hD
  rw [if_pos rfl,if_pos rfl,zq d.show_ c hf.sh.small (ch hx).right hf.sh.ties]
  simp only
  cases hC:bX d.show_ c
  ·rw [if_neg (by simp),if_neg (by simp)]
  ·rw [if_pos rfl,if_pos rfl]
   have hn:=(ch hx).now
   have key:=PW c (jL c.lengths c.values) (by
    intro d hf hx hc
    have hl:=HF d.show_ d.state c hf.sh.ties
    have hv:=FE hc
    unfold jL tupD
    simp only
    rw [show (GShow.mk d.show_.nodes d.show_.ties d.show_.horizon)=d.show_ from rfl,show (GState.mk d.state.now d.state.times d.state.values)=d.state from rfl,show (GChoice.mk c.lengths c.values)=c from rfl,show (GDesk.mk d.show_ d.state d.lazy d.log)=d from rfl]
    rw [DF d.show_ d.state c hf.sh hf.st]
    simp only [obnd]
    rw [FD d _ c.values hf hl (by omega)]
    simp only
    show (if (bD c d).2.2=0 then _ else _)=_
    by_cases h0:(bD c d).2.2=0
    ·rw [if_pos h0,if_pos h0];rfl
    ·rw [if_neg h0,if_neg h0];rfl) 13 d hf hx hC (by omega)
   unfold tupD at key
   rw [key]
theorem HU (c:GChoice):∀ (n:Nat) (d:GDesk),FitD d→FitD (runF c n d).1∧(runF c n d).1.show_=d.show_
 | 0,d,hf=>⟨hf,rfl⟩
 | n+1,d,hf=>by
  show FitD (if (bD c d).2.2=0 then runF c n (bD c d).1 else (d,(bD c d).2.2)).1∧(if (bD c d).2.2=0 then runF c n (bD c d).1 else (d,(bD c d).2.2)).1.show_=d.show_
  by_cases h0:(bD c d).2.2=0
  ·obtain ⟨f1,f2,f3,f4⟩:=HS hf h0
   rw [if_pos h0]
   obtain ⟨g1,g2⟩:=HU c n _ f1
   exact ⟨g1,by rw [g2,f2]⟩
  ·rw [if_neg h0]
   exact ⟨hf,rfl⟩
theorem Og (d:GDesk)(c:GChoice)(hf:FitD d):FitD (runR d c).1∧(runR d c).1.show_=d.show_:=by
 unfold runR
 split
 ·split
  ·exact HU c 13 d hf
  ·exact ⟨hf,rfl⟩
 ·exact ⟨hf,rfl⟩
end Go.Proofs.Qd
set_option maxRecDepth 100000
set_option maxHeartbeats 1000000
namespace Go.Proofs.Qd
open Go
theorem Oh {s:GShow}(z:Bool)(h:aH s=true):(kH s z).2=true:=by
 unfold kH;rw [if_pos h]
end Go.Proofs.Qd
set_option maxRecDepth 100000
set_option maxHeartbeats 1000000
namespace Go.Proofs.Qd
open Go
theorem lit1 {p v:Int}(h1:1≤p)(h2:p≤3)(hv:v=1∨v=-1):pr (p*v)=p∧sgn (p*v)=v∧p*v≠0∧-3≤p*v∧p*v≤3:=by
 have:p=1∨p=2∨p=3:=by omega
 rcases this with rfl | rfl | rfl <;> rcases hv with rfl | rfl <;> decide
theorem Co {values ps:List Int}(hv:pmB values=true)(hp:∀ p,p∈ps→1≤p∧p≤3){p:Int}(h:p∈ps):pr (p*tm values (p - 1))=p∧sgn (p*tm values (p - 1))=tm values (p - 1)∧p*tm values (p - 1)≠0∧-3≤p*tm values (p - 1)∧p*tm values (p - 1)≤3:=by
 have h1:=hp p h
 exact lit1 h1.1 h1.2 (Lk hv (by omega) (by omega))
theorem Ua {values ps:List Int}(hv:pmB values=true)(hp:∀ p,p∈ps→1≤p∧p≤3):(litL values ps).map pr=ps:=by
 unfold litL
 rw [List.map_map]
 conv=>rhs;rw [← List.map_id ps]
 exact List.map_congr_left (fun p h=>(Co hv hp h).1)
theorem PX {values ps:List Int}(hv:pmB values=true)(hp:∀ p,p∈ps→1≤p∧p≤3):(litL values ps).map sgn=df values ps:=by
 unfold litL df
 rw [List.map_map]
 exact List.map_congr_left (fun p h=>(Co hv hp h).2.1)
theorem ML {values ps:List Int}(hv:pmB values=true)(hp:∀ p,p∈ps→1≤p∧p≤3)(ha:Asc ps):bM (litL values ps)=true:=by
 have hlen:(litL values ps).length=ps.length:=List.length_map _
 have hget:∀ i,i<ps.length→(litL values ps).getD i 0=ps.getD i 0*tm values (ps.getD i 0 - 1):=by
  intro i hi
  unfold litL
  simp [hi]
 have hmem:∀ i,i<ps.length→ps.getD i 0∈ps:=by
  intro i hi
  rw [show ps.getD i 0=ps[i] by simp [hi]]
  exact List.getElem_mem hi
 unfold bM
 refine decide_eq_true ?_
 intro i hi
 rw [hlen] at hi
 unfold labP
 refine decide_eq_true ?_
 rw [hget i hi]
 obtain ⟨a1,a2,a3,a4,a5⟩:=Co hv hp (hmem i hi)
 refine ⟨a3,a4,a5,?_⟩
 intro h0
 rw [hget (i - 1) (by omega),a1,(Co hv hp (hmem (i - 1) (by omega))).1]
 exact HM ha hi h0
theorem zD {s:GShow}(e:aw):∀ (log:List aw) (x:GState),(bn s x log).2=true→(cA s (bn s x log).1 e).2=true→bn s x (log++[e])=((cA s (bn s x log).1 e).1,true)
 | [],x,_,h=>by
  show (if (cA s x e).2=true then bn s (cA s x e).1 [] else (ko,false))=_
  have h':(cA s x e).2=true:=h
  rw [if_pos h'];rfl
 | f::r,x,h,g=>by
  have hc:∀ l,bn s x (f::l)=if (cA s x f).2=true then bn s (cA s x f).1 l else (ko,false):=fun _=>rfl
  rw [hc] at h g
  rw [List.cons_append,hc,hc]
  by_cases he:(cA s x f).2=true
  ·rw [if_pos he] at h g
   rw [if_pos he,if_pos he]
   exact zD e r _ h g
  ·rw [if_neg he] at h;cases h
theorem HV {d:GDesk}{ties values nd:List Int}(h0:de d ties values=0)(hn:nd∈decL d.show_ (endX d.show_ d.state ties)):dn (finD d ties values nd)=true:=by
 obtain ⟨g1,hp,g3,_⟩:=nH h0
 have hps:∀ p,p∈aL d.show_ nd→1≤p∧p≤3:=fun p h=>⟨(bU h).1,(bU h).2.1⟩
 have hst:=MK (values:=values) h0 hn
 have hg:=g1
 unfold dn at hg
 simp only [Bool.and_eq_true,decide_eq_true_eq] at hg
 obtain ⟨⟨⟨e1,e2⟩,e3⟩,e4⟩:=hg
 have hstep:cA d.show_ d.state ⟨d.state.now,ties,nd,litL values (aL d.show_ nd)⟩=((finD d ties values nd).state,true):=by
  unfold cA
  rw [if_pos ⟨rfl,g3,ML hp hps (wm _ _),hn,Ua hp hps⟩]
  simp only
  rw [PX hp hps]
  rfl
 have hrep:dL d.show_ (d.log++[⟨d.state.now,ties,nd,litL values (aL d.show_ nd)⟩])=((finD d ties values nd).state,true):=by
  unfold dL at e3 e4 ⊢
  by_cases hA:aH d.show_=true
  ·rw [if_pos hA] at e3 e4 ⊢
   rw [zD _ d.log _ e3 (by rw [e4,hstep]),e4,hstep]
  ·rw [if_neg hA] at e3;cases e3
 unfold dn
 simp only [Bool.and_eq_true,decide_eq_true_eq]
 refine ⟨⟨⟨hst,?_⟩,?_⟩,?_⟩
 ·show (((d.log++[_]).length:Nat):Int)=d.state.now+1
  rw [List.length_append]
  simp only [List.length_cons,List.length_nil]
  omega
 ·show (dL d.show_ (d.log++[_])).2=true
  rw [hrep]
 ·show (dL d.show_ (d.log++[_])).1=_
  rw [hrep]
theorem MM {d:GDesk}{ties values:List Int}{refused:Int}{c:Option (List Int)}(hd:dn d=true)(hc:∀ nd,c=some nd→nd∈decL d.show_ (endX d.show_ d.state ties)):dn (mW d ties values refused c).1=true:=by
 unfold mW
 by_cases h0:de d ties values=0
 ·rw [if_pos h0]
  cases c with
  | none=>exact hd
  | some nd=>exact HV h0 (hc nd rfl)
 ·rw [if_neg h0];exact hd
theorem EV (c:GChoice):∀ (n:Nat) (d:GDesk),dn d=true→dn (runF c n d).1=true
 | 0,d,h=>h
 | n+1,d,h=>by
  show dn (if (bD c d).2.2=0 then runF c n (bD c d).1 else (d,(bD c d).2.2)).1=true
  split
  ·refine EV c n _ ?_
   unfold bD
   exact MM h (fun nd hn=>(qi hn).1)
  ·exact h
theorem MN {d:GDesk}(c:GChoice)(h:dn d=true):dn (runR d c).1=true:=by
 unfold runR
 rw [if_pos h]
 split
 ·exact EV c 13 d h
 ·exact h
theorem Oi {s:GShow}(z:Bool)(h:aH s=true):dn (kH s z).1=true:=by
 unfold kH
 rw [if_pos h]
 unfold dn
 simp only [Bool.and_eq_true,decide_eq_true_eq]
 refine ⟨⟨⟨pA h,rfl⟩,?_⟩,?_⟩
 ·unfold dL;rw [if_pos h];rfl
 ·unfold dL;rw [if_pos h];rfl
end Go.Proofs.Qd
set_option maxRecDepth 100000
set_option maxHeartbeats 1000000
namespace Go.Proofs.Qd
open Go
theorem EW {ns:List GNode}{ts:List GTie}{z:Int}(hA:eQ ⟨ns,[],0⟩=true)(hW:fj ⟨ns,[],0⟩=true)(ht:∀ i (hi:i<ts.length),tieB ⟨ns,ts,z⟩ ts[i]=true∧iZ ⟨ns,ts,z⟩ i ts[i]=true)(h14:ts.length≤14)(hz:1≤z∧z≤10):aH ⟨ns,ts,z⟩=true:=by
 unfold aH
 simp only [Bool.and_eq_true,decide_eq_true_eq]
 refine ⟨⟨⟨⟨hA,?_⟩,h14⟩,hz⟩,hW⟩
 intro i hi
 rw [mh hi,Bool.and_eq_true]
 exact ht i hi
def brN:List GNode:=[(GNode.mk (ByteArray.mk #[103,111]) ([]) 0),(GNode.mk (ByteArray.mk #[97]) ([]) 1),(GNode.mk (ByteArray.mk #[98]) ([1]) 0),(GNode.mk (ByteArray.mk #[99]) ([(-1)]) 0)]
def brM:List GNode:=brN++([(GNode.mk (ByteArray.mk #[100]) ([1]) 0)])
theorem VR:eQ ⟨brN,[],0⟩=true:=by decide +kernel
theorem VS:eQ ⟨brM,[],0⟩=true:=by decide +kernel
theorem VT:fj ⟨brN,[],0⟩=true:=by decide +kernel
theorem VU:fj ⟨brM,[],0⟩=true:=by decide +kernel
structure BrT (t:GTie):Prop where
 f0:0≤t.from_
 f1:t.from_<4
 t0:0≤t.to
 t1:t.to<4
 ne:t.from_≠t.to
 lo:-20≤t.low
 hi:t.high≤20
 lh:t.low≤t.high
 fr:t.free=false
theorem BrT.b {t:GTie}(h:BrT t){ns:List GNode}{ts:List GTie}{z:Int}(hn:4≤ns.length):tieB ⟨ns,ts,z⟩ t=true:=by
 have h1:=h.f1
 have h2:=h.t1
 unfold tieB
 rw [decide_eq_true_eq]
 exact ⟨⟨h.f0,by show t.from_<(ns.length:Int);omega⟩,⟨h.t0,by show t.to<(ns.length:Int);omega⟩,h.ne,h.lo,h.hi,h.lh⟩
theorem BrT.f {t:GTie}(h:BrT t){s:GShow}{i:Nat}:iZ s i t=true:=by
 unfold iZ
 rw [h.fr];rfl
theorem HW {c:GL01Cur}(hc:Cur c):∃ r,iJ c=some r∧aH r.1=true∧FitS r.1∧Cur r.2:=by
 unfold iJ
 obtain ⟨r1,e,a0,a1,hc⟩:=bp hc 3 (by omega)
 have a1:=a1 (by omega)
 rw [e];simp only [obnd]
 obtain ⟨r2,e,b0,b1,hc⟩:=bp hc 2 (by omega)
 have b1:=b1 (by omega)
 rw [e];simp only
 obtain ⟨r3,e,d0,d1,hc⟩:=bp hc 3 (by omega)
 have d1:=d1 (by omega)
 rw [e];simp only
 rw [wr (x:=4+r1.1) (by omega) (by omega),wr (x:=r2.1+r3.1) (by omega) (by omega)]
 have key:∃ q,ao (fP (4+r1.1) brN) (2,[(GTie.mk 0 1 r2.1 (r2.1+r3.1) false)],r3.2.b,r3.2.i,r3.2.h)=some q∧(∀ t,t∈q.1→BrT t)∧q.1.length≤3∧Cur ⟨q.2.1,q.2.2.1,q.2.2.2⟩:=by
  refine cw 2 (fun i st=>st.1=2+(i:Int)∧(∀ t,t∈st.2.1→BrT t)∧st.2.1.length≤1+i∧Cur ⟨st.2.2.1,st.2.2.2.1,st.2.2.2.2⟩) _ ?_ ?_ ?_
  ·refine ⟨by simp,?_,by simp,hc⟩
   intro t ht
   rw [List.mem_singleton] at ht
   subst ht
   exact ⟨by simp only;omega,by simp only;omega,by simp only;omega,by simp only;omega,by simp only;omega,by simp only;omega,by simp only;omega,by simp only;omega,rfl⟩
  ·rintro i ⟨k,ts,b,j,d⟩ hi ⟨hk,hp,hl,hcu⟩
   simp only at hk hp hl hcu
   subst hk
   unfold fP
   simp only
   rw [if_pos (by omega)]
   obtain ⟨r7,e,f0,f1,hcu⟩:=bp hcu 3 (by omega)
   have f1:=f1 (by omega)
   rw [e];simp only [obnd]
   obtain ⟨r8,e,g0,g1,hcu⟩:=bp hcu 2 (by omega)
   have g1:=g1 (by omega)
   rw [e];simp only
   obtain ⟨r9,e,k0,k1,hcu⟩:=bp hcu 3 (by omega)
   have k1:=k1 (by omega)
   rw [e];simp only
   rw [an (by omega),an (by omega),wr (x:=2+(i:Int)+1) (by omega) (by omega),wr (x:=r7.1+1) (by omega) (by omega),wr (x:=r7.1+1+r9.1) (by omega) (by omega)]
   refine .inl ⟨_,rfl,?_,?_,?_,hcu⟩
   ·simp only;omega
   ·intro t ht
    rw [List.mem_append,List.mem_singleton] at ht
    rcases ht with ht | rfl
    ·exact hp t ht
    ·exact ⟨by simp only;omega,by simp only;omega,by simp only;omega,by simp only;omega,by simp only;omega,by simp only;omega,by simp only;omega,by simp only;omega,rfl⟩
   ·simp only [List.length_append,List.length_singleton];omega
  ·rintro ⟨k,ts,b,j,d⟩ ⟨hk,hp,hl,hcu⟩
   simp only at hk hp hl hcu
   subst hk
   unfold fP
   simp only
   rw [if_neg (by omega)]
   exact ⟨_,rfl,hp,by simp only;omega,hcu⟩
 obtain ⟨q,e,hp,hl,hcu⟩:=key
 unfold brN at e
 rw [e];simp only
 obtain ⟨r11,e,hcu⟩:=ut hcu 2 (by omega)
 rw [e];simp only
 by_cases h1:r11.1=true
 ·rw [if_pos h1]
  obtain ⟨r12,e,g0,g1,hcu⟩:=bp hcu 2 (by omega)
  have g1:=g1 (by omega)
  rw [e];simp only
  rw [an (by decide),an (by decide)]
  obtain ⟨r13,e,k0,k1,hcu⟩:=bp hcu 2 (by omega)
  have k1:=k1 (by omega)
  rw [e];simp only
  rw [an (by omega),an (by omega),wr (x:=1+r12.1) (by omega) (by omega),wr (x:=1+r12.1+r13.1) (by omega) (by omega)]
  refine ⟨_,rfl,?_,?_,hcu⟩
  ·refine EW (ns:=brM) VS VU ?_ (by simp only [List.length_append,List.length_singleton];omega) (by omega)
   intro i hi
   rw [List.length_append,List.length_singleton] at hi
   by_cases hi':i<q.1.length
   ·rw [List.getElem_append_left hi']
    have h:=hp _ (List.getElem_mem hi')
    exact ⟨h.b (by decide),h.f⟩
   ·have hie:i=q.1.length:=by omega
    subst hie
    rw [List.getElem_append_right (Nat.le_refl _)]
    simp only [Nat.sub_self,List.getElem_cons_zero]
    constructor
    ·unfold tieB
     rw [decide_eq_true_eq]
     refine ⟨⟨by simp only;omega,(by decide:(2:Int)<((brM.length:Nat):Int))⟩,⟨by simp only;omega,(by decide:(4:Int)<((brM.length:Nat):Int))⟩,by simp only;omega,by simp only;omega,by simp only;omega,by simp only;omega⟩
    ·unfold iZ
     simp only [Bool.not_true,Bool.false_or,Bool.and_eq_true,decide_eq_true_eq]
     refine ⟨⟨by omega,by decide⟩,?_⟩
     rw [Bool.not_eq_true',List.any_eq_false]
     intro u hu hx
     rw [List.take_append_of_le_length (Nat.le_refl _),List.take_length] at hu
     rw [(hp u hu).fr] at hx
     simp at hx
  ·refine ⟨(by decide:brM.length≤1048576),by simp only [List.length_append,List.length_singleton];omega,?_⟩
   intro n hn
   have:∀ n,n∈brM→FitN n:=by
    intro n hn
    unfold brM brN at hn
    simp only [List.mem_append,List.mem_cons,List.not_mem_nil,or_false] at hn
    rcases hn with (rfl | rfl | rfl | rfl) | rfl <;> exact ⟨by decide,by decide⟩
   exact this n hn
 ·rw [if_neg h1]
  refine ⟨_,rfl,?_,?_,hcu⟩
  ·refine EW (ns:=brN) VR VT ?_ (by omega) (by omega)
   intro i hi
   have h:=hp _ (List.getElem_mem hi)
   exact ⟨h.b (by decide),h.f⟩
  ·refine ⟨(by decide:brN.length≤1048576),by show q.1.length≤_;omega,?_⟩
   intro n hn
   have:∀ n,n∈brN→FitN n:=by
    intro n hn
    unfold brN at hn
    simp only [List.mem_cons,List.not_mem_nil,or_false] at hn
    rcases hn with rfl | rfl | rfl | rfl <;> exact ⟨by decide,by decide⟩
   exact this n hn
theorem Ll {c:GL01Cur}(hc:Cur c):∃ r,ki c=some r∧aH r.1=true∧FitS r.1∧Cur r.2:=by
 unfold ki
 obtain ⟨r1,e,hc⟩:=ut hc 3 (by omega)
 rw [e];simp only [obnd]
 by_cases h1:r1.1=true
 ·rw [if_pos h1]
  obtain ⟨r,e,h1,h2,h3⟩:=HW hc
  rw [e]
  exact ⟨_,rfl,h1,h2,h3⟩
 ·rw [if_neg h1]
  obtain ⟨r,e,h1,h2,h3⟩:=IX hc
  rw [e]
  exact ⟨_,rfl,h1,h2,h3⟩
theorem Jc (code:List Int)(h:code.length≤1048576):∃ s,js code=some s∧aH s=true∧FitS s:=by
 unfold js
 obtain ⟨c,e,hc⟩:=EP code h
 rw [e];simp only [obnd]
 obtain ⟨r,e,h1,h2,_⟩:=Ll hc
 rw [e]
 exact ⟨_,rfl,h1,h2⟩
end Go.Proofs.Qd
set_option maxRecDepth 100000
set_option maxHeartbeats 1000000
namespace Go.Proofs.Qd
open Go
theorem Jd {s:GShow}{x:GState}(hs:bE s)(fx:FitX x)(hx:aI s x=true):kZ s x=some (win s x):=by
 unfold kZ
 rw [oL s x hs fx.times fx.values]
 simp only [obnd]
 rw [hx,if_pos rfl]
 unfold iu
 simp only
 obtain ⟨k,_,e⟩:=DN hs x.now (ch hx).now.1 [] x hx rfl (wq s)
 rw [e]
end Go.Proofs.Qd
set_option maxRecDepth 100000
set_option maxHeartbeats 1000000
namespace Go.Proofs.Qd
open Go
theorem Je (code:List Int)(n:Int)(h:code.length≤1048576)(h0:0≤n)(h1:n≤1000000):∃ r,kj code n=some r∧0≤r:=by
 unfold kj
 obtain ⟨c,e,hc⟩:=Mx code n h h0 h1
 rw [e]
 simp only [obnd]
 obtain ⟨r,e,a0,a1,hr⟩:=qM hc
 rw [e]
 simp only
 obtain ⟨q,e,b0,b1,hq⟩:=qM hr
 rw [e]
 refine ⟨_,rfl,?_⟩
 rw [wr (x:=r.1*256) (by omega) (by omega),wr (x:=r.1*256+q.1) (by omega) (by omega)]
 omega
end Go.Proofs.Qd
set_option maxRecDepth 100000
set_option maxHeartbeats 1000000
namespace Go.Proofs.Qd
open Go
theorem xK {s:GShow}{k:Int}(h:k∈bf s):∃ i,∃ hi:i<s.ties.length,k=(i:Int)∧s.ties[i].free=true:=by
 obtain ⟨i,hi,hp,rfl⟩:=cW.1 h
 unfold bI at hp
 rw [List.getElem?_eq_getElem hi] at hp
 exact ⟨i,hi,rfl,hp⟩
theorem HX {s:GShow}(h:aH s=true):(bf s).length≤6:=by
 have hR:=ba h
 have hn:=hR.nodes
 have hnd:((bf s).map (fun k=>(aG s k).to)).Nodup:=by
  unfold List.Nodup
  rw [List.pairwise_map]
  refine List.Pairwise.imp_of_mem ?_ (oO _ _)
  intro a b ha hb hab he
  obtain ⟨i,hi,rfl,hf⟩:=xK ha
  obtain ⟨j,hj,rfl,hg⟩:=xK hb
  rw [bo hi,bo hj] at he
  have:=rz h hi hj hf hg he
  omega
 have:=sj (r:=[1,2,3,4,5,6]) hnd (fun y hy=>by
  rw [List.mem_map] at hy
  obtain ⟨k,hk,rfl⟩:=hy
  obtain ⟨i,hi,rfl,hf⟩:=xK hk
  rw [bo hi]
  have hT:=hR.tie _ (List.getElem_mem hi)
  have h0:=(cO h hi hf).t0
  have h1:=hT.t0
  have h2:=hT.t1
  simp only [List.mem_cons,List.not_mem_nil,or_false]
  omega)
 simpa using this
theorem MO {s:GShow}(h:aH s=true){k:Int}(hk:k∈bf s):∃ t,getI s.ties k=some t∧-20≤t.low∧t.low≤t.high∧t.high≤20:=by
 obtain ⟨i,hi,rfl,_⟩:=xK hk
 have hT:=(ba h).tie _ (List.getElem_mem hi)
 exact ⟨_,aD hi,hT.lo,hT.lh,hT.hi⟩
theorem Oj {s:GShow}(hf:FitS s)(h:aH s=true):∃ n,cT s=some n∧1≤n∧n≤1000000000000:=by
 have h6:=HX h
 have hs:=hf.small
 unfold cT
 rw [Jl s hs,h]
 simp only [obnd,if_true]
 rw [BU s hf.ties]
 change ∃ n,(obnd (ao (cN (((bf s).length:Nat):Int) s.nodes s.ties s.horizon (bf s)) (1,0)) _)=_∧_
 have key:∃ q,ao (cN (((bf s).length:Nat):Int) s.nodes s.ties s.horizon (bf s)) (1,0)=some q∧1≤q∧q≤4750104241:=by
  have hp:∀ i:Nat,i≤6→(41:Int)^i≤4750104241:=by
   intro i hi
   have:i=0∨i=1∨i=2∨i=3∨i=4∨i=5∨i=6:=by omega
   rcases this with rfl | rfl | rfl | rfl | rfl | rfl | rfl <;> decide
  refine cw (bf s).length (fun i st=>st.2=(i:Int)∧1≤st.1∧st.1≤41^i) _ ⟨rfl,by decide,by decide⟩ ?_ ?_
  ·rintro i ⟨n,v⟩ hi ⟨hk,h1,h2⟩
   simp only at hk h1 h2
   subst hk
   obtain ⟨t,e,b1,b2,b3⟩:=MO h (List.getElem_mem hi)
   unfold cN
   simp only
   rw [if_pos (by omega),aD hi]
   simp only [obnd]
   rw [e]
   simp only
   have hp1:=hp (i+1) (by omega)
   rw [wr (x:=t.high - t.low) (by omega) (by omega),wr (x:=t.high - t.low+1) (by omega) (by omega)]
   have hm:n*(t.high - t.low+1)≤41^i*41:=Int.mul_le_mul h2 (by omega) (by omega) (by omega)
   have hm0:1*1≤n*(t.high - t.low+1):=Int.mul_le_mul h1 (by omega) (by omega) (by omega)
   rw [Int.pow_succ] at hp1
   rw [wr (x:=n*(t.high - t.low+1)) (by omega) (by omega),wr (x:=(i:Int)+1) (by omega) (by omega)]
   refine .inl ⟨_,rfl,by simp only;omega,by simp only;omega,?_⟩
   simp only
   rw [Int.pow_succ]
   exact hm
  ·rintro ⟨n,v⟩ ⟨hk,h1,h2⟩
   simp only at hk h1 h2
   subst hk
   unfold cN
   simp only
   rw [if_neg (by omega)]
   exact ⟨_,rfl,h1,Int.le_trans h2 (hp _ h6)⟩
 obtain ⟨q,e,q1,q2⟩:=key
 rw [e]
 simp only [obnd]
 have key:∃ r,ao (dT s.nodes s.ties s.horizon) (q,1)=some r∧1≤r∧r≤1000000000000:=by
  refine cw 3 (fun i st=>st.2=1+(i:Int)∧1≤st.1∧(i=0→st.1≤4750104241)∧(i=1→st.1≤9500208482)∧(i=2→st.1≤19000416964)∧(i=3→st.1≤38000833928)) _ (by refine ⟨by simp,q1,?_,?_,?_,?_⟩ <;> intro h <;> first | exact q2 | omega) ?_ ?_
  ·rintro i ⟨n,p⟩ hi ⟨hk,h1,h2,h3,h4,h5⟩
   simp only at hk h1 h2 h3 h4 h5
   subst hk
   unfold dT
   simp only
   rw [if_pos (by omega),show (GShow.mk s.nodes s.ties s.horizon)=s from rfl,mX s _ hs.nodes]
   simp only [obnd]
   have hb:n≤19000416964:=by
    have:i=0∨i=1∨i=2:=by omega
    rcases this with rfl | rfl | rfl
    ·have:=h2 rfl;omega
    ·have:=h3 rfl;omega
    ·exact h4 rfl
   rw [wr (x:=1+(i:Int)+1) (by omega) (by omega)]
   split
   ·rw [wr (x:=2*n) (by omega) (by omega)]
    refine .inl ⟨_,rfl,by simp only;omega,by simp only;omega,fun h=>by omega,fun h=>?_,fun h=>?_,fun h=>?_⟩
    ·have:=h2 (by omega);simp only;omega
    ·have:=h3 (by omega);simp only;omega
    ·have:=h4 (by omega);simp only;omega
   ·refine .inl ⟨_,rfl,by simp only;omega,h1,fun h=>by omega,fun h=>?_,fun h=>?_,fun h=>?_⟩
    ·have:=h2 (by omega);simp only;omega
    ·have:=h3 (by omega);simp only;omega
    ·have:=h4 (by omega);simp only;omega
  ·rintro ⟨n,p⟩ ⟨hk,h1,h2,h3,h4,h5⟩
   simp only at hk h1 h2 h3 h4 h5
   subst hk
   unfold dT
   simp only
   rw [if_neg (by omega)]
   exact ⟨_,rfl,h1,by have:=h5 trivial;omega⟩
 obtain ⟨r,e,r1,r2⟩:=key
 rw [e]
 exact ⟨_,rfl,r1,r2⟩
end Go.Proofs.Qd
set_option maxRecDepth 100000
set_option maxHeartbeats 1000000
namespace Go.Proofs.Qd
open Go
theorem Lm {s:GShow}(h:aH s=true){i:Nat}(hi:i<s.ties.length)(hf:s.ties[i].free=true):dB s s.ties[i].to.toNat=dB s s.ties[i].from_.toNat:=by
 have hR:=ba h
 have hT:=hR.tie _ (List.getElem_mem hi)
 unfold aH at h
 simp only [Bool.and_eq_true,decide_eq_true_eq] at h
 have hp:=h.1.1.1.2 i hi
 rw [mh hi,Bool.and_eq_true] at hp
 have hF:=hp.2
 unfold iZ at hF
 rw [hf] at hF
 simp only [Bool.not_true,Bool.false_or,Bool.and_eq_true,decide_eq_true_eq] at hF
 obtain ⟨⟨⟨h1,h2⟩,h3⟩,h4⟩:=hF
 have a1:=hT.t1
 have a2:=hT.f1
 have b1:s.nodes[s.ties[i].to.toNat]?=some (s.nodes[s.ties[i].to.toNat]'(by have:=hT.t0;omega)):=List.getElem?_eq_getElem _
 have b2:s.nodes[s.ties[i].from_.toNat]?=some (s.nodes[s.ties[i].from_.toNat]'(by have:=hT.f0;omega)):=List.getElem?_eq_getElem _
 rw [b1,b2] at h3
 simp only [decide_eq_true_eq] at h3
 unfold dB
 rw [b1,b2]
 simp only [Option.map_some,Option.getD_some]
 exact h3.2
theorem Cp {s:GShow}(h:aH s=true):dB s 0=[]∧∀ (h0:0<s.nodes.length),s.nodes[0].watch=0:=by
 have hR:=ba h
 have hn:=hR.node1
 unfold aH eQ pB at h
 simp only [Bool.and_eq_true] at h
 obtain ⟨⟨⟨⟨⟨⟨h1,hf⟩,_⟩,h2⟩,h3⟩,h4⟩,_⟩:=h
 rw [List.getElem?_eq_getElem (show 0<s.nodes.length by omega)] at hf
 simp only [Option.any_some,Bool.and_eq_true,decide_eq_true_eq] at hf
 refine ⟨?_,fun _=>hf.2⟩
 rw [pz (by omega)]
 exact hf.1
theorem HY {ps v:List Int}(f:Int→Int)(hv:v.length=3)(hp:∀ p,p∈ps→1≤p∧p≤3):∀ n,n≤ps.length→∀ k:Int,0≤k→(∃ i,i<n∧ps.getD i 0 - 1=k)→tm (setV ps (ps.map f) v n) k=f (k+1)
 | 0,_,k,_,h=>by obtain ⟨i,hi,_⟩:=h;omega
 | n+1,hn,k,hk,h=>by
  rw [lK]
  have hb:=hp (ps.getD n 0) (by rw [List.getD_eq_getElem?_getD,List.getElem?_eq_getElem (show n<ps.length by omega)];exact List.getElem_mem _)
  rw [Cd _ _ _ _ (by omega) (by rw [lL];omega) hk]
  by_cases e:k=ps.getD n 0 - 1
  ·rw [if_pos e,List.getD_eq_getElem?_getD,List.getElem?_map,List.getElem?_eq_getElem (show n<ps.length by omega)]
   rw [List.getD_eq_getElem?_getD,List.getElem?_eq_getElem (show n<ps.length by omega),Option.getD_some] at e
   simp only [Option.map_some,Option.getD_some]
   congr 1;omega
  ·rw [if_neg e]
   obtain ⟨i,hi,he⟩:=h
   exact HY f hv hp n (by omega) k hk ⟨i,by rcases Nat.lt_or_ge i n with h1 | h1;exact h1;exact absurd (by rw [← he,show i=n by omega]) e,he⟩
structure tI (s:GShow) (c:GChoice) (x:GState):Prop where
 val:∀ k:Int,0≤k→k<3→tm x.values k≠0→tm x.values k=tm c.values k
 lab:∀ i:Nat,i<s.nodes.length→tm x.times (i:Int)≠-1→eU (dB s i) x.values=1
 lit:∀ i:Nat,i<s.nodes.length→tm x.times (i:Int)≠-1→∀ l,l∈dB s i→tm x.times (bF s (pr l))≠-1∧tm x.times (bF s (pr l))+1≤tm x.times (i:Int)
 ord:∀ i (hi:i<s.ties.length),s.ties[i].free=true→tm x.times s.ties[i].to≠-1→tm x.times s.ties[i].from_≠-1
 act:∀ i (hi:i<s.ties.length),s.ties[i].free=true→tm x.times s.ties[i].from_≠-1→tm x.times s.ties[i].to=-1→x.now - tm x.times s.ties[i].from_≤bJ s c (i:Int)
 fin:∀ i (hi:i<s.ties.length),s.ties[i].free=true→tm x.times s.ties[i].to≠-1→tm x.times s.ties[i].to - tm x.times s.ties[i].from_=bJ s c (i:Int)
theorem PY {s:GShow}{i:Nat}(hi:i<s.ties.length)(hf:s.ties[i].free=true):(i:Int)∈bf s:=by
 refine cW.2 ⟨i,hi,?_,rfl⟩
 unfold bI
 rw [List.getElem?_eq_getElem hi];exact hf
theorem zZ {s:GShow}{c:GChoice}(hc:bX s c=true)(h:aH s=true){i:Nat}(hi:i<s.ties.length)(hf:s.ties[i].free=true):s.ties[i].low≤bJ s c (i:Int)∧bJ s c (i:Int)≤s.ties[i].high:=by
 have hm:=PY hi hf
 have hlt:=HE hm
 have hl:=wd hc
 unfold bX at hc
 simp only [Bool.and_eq_true,decide_eq_true_eq] at hc
 have hp:=hc.1.2 (idxOf (bf s) (i:Int)).toNat (by omega)
 unfold lenP at hp
 rw [decide_eq_true_eq] at hp
 have e:(bf s).getD (idxOf (bf s) (i:Int)).toNat 0=(i:Int):=by
  have h0:=hlt.1
  unfold idxOf at h0 ⊢
  cases hf:(List.range (bf s).length).find? (fun j=>decide ((i:Int)=(bf s).getD j 0)) with
  | none=>rw [hf] at h0;simp at h0
  | some j=>
   have:=List.find?_some hf
   simp only [decide_eq_true_eq] at this
   simp only [Int.toNat_natCast]
   exact this.symm
 rw [e,bo hi] at hp
 have e2:c.lengths.getD (idxOf (bf s) (i:Int)).toNat 0=bJ s c (i:Int):=by
  unfold bJ;rw [List.getD_eq_getElem?_getD]
 rw [e2] at hp
 exact hp
theorem MP {s:GShow}{c:GChoice}(h:aH s=true)(hc:bX s c=true):tI s c (bC s):=by
 have hR:=ba h
 have hn:=hR.node1
 have h0:=Cp h
 have ht:∀ i:Int,0≤i→i<s.nodes.length→tm (bC s).times i≠-1→i=0:=by
  intro i hi hl hne
  refine Classical.byContradiction (fun h1=>hne ?_)
  have key:∀ n (j:Nat),j<n→0<j→(stL n)[j]?=some (-1):=by
   intro n
   induction n with
   | zero=>intro j hj;omega
   | succ n ih=>
    intro j hj hj0
    cases n with
    | zero=>omega
    | succ n=>
     rw [uq]
     rcases Nat.lt_or_ge j (n+1) with h2 | h2
     ·rw [List.getElem?_append_left (by rw [km];exact h2)];exact ih j h2 hj0
     ·rw [List.getElem?_append_right (by rw [km];exact h2),km,show j - (n+1)=0 by omega];rfl
  show tm (stL s.nodes.length) i=-1
  unfold tm
  rw [key s.nodes.length i.toNat (by omega) (by omega)];rfl
 have ht0:tm (bC s).times 0=0:=by
  show tm (stL s.nodes.length) 0=0
  have key:∀ n,(stL (n+1))[0]?=some 0:=by
   intro n
   induction n with
   | zero=>rfl
   | succ n ih=>rw [uq,List.getElem?_append_left (by rw [km];omega)];exact ih
  obtain ⟨n,hn2⟩:=Nat.exists_eq_add_of_le hn
  rw [hn2,Nat.add_comm]
  unfold tm
  rw [show (0:Int).toNat=0 from rfl,key n];rfl
 refine ⟨?_,?_,?_,?_,?_,?_⟩
 ·intro k h1 h2 hne
  refine absurd ?_ hne
  show tm (List.replicate 3 0) k=0
  have:k=0∨k=1∨k=2:=by omega
  rcases this with rfl | rfl | rfl <;> rfl
 ·intro i hi hne
  have:=ht i (by omega) (by omega) hne
  have:i=0:=by omega
  subst this
  rw [h0.1];rfl
 ·intro i hi hne l hl
  have:=ht i (by omega) (by omega) hne
  have:i=0:=by omega
  subst this
  rw [h0.1] at hl;cases hl
 ·intro i hi hf hne
  have hT:=hR.tie _ (List.getElem_mem hi)
  exact absurd (ht _ hT.t0 hT.t1 hne) (cO h hi hf).t0
 ·intro i hi hf hne _
  have hT:=hR.tie _ (List.getElem_mem hi)
  have e:=ht _ hT.f0 hT.f1 hne
  rw [e,ht0]
  have:=(zZ hc h hi hf).1
  have:=(cO h hi hf).low
  show (0:Int) - 0≤_
  omega
 ·intro i hi hf hne
  have hT:=hR.tie _ (List.getElem_mem hi)
  exact absurd (ht _ hT.t0 hT.t1 hne) (cO h hi hf).t0
theorem Cq {s:GShow}{x:GState}(hx:aI s x=true){ties:List Int}(ht:ties∈cg s x){nodes:List Int}(hn:nodes∈decL s (endX s x ties))(vs:List Int) :
  ∀ i:Int,0≤i→tm (obsX (decX (endX s x ties) nodes) (aL s nodes) vs).times i=if i∈nodes then x.now else if i∈ties.map (fun k=>(aG s k).to) then x.now else tm x.times i:=by
 have hR:=ch hx
 obtain ⟨_,_,ha⟩:=jy hR.ok ht
 have hM:=kq hx ht
 obtain ⟨_,_,hm⟩:=fG hM.right hn
 have hlen:(endX s x ties).times.length=s.nodes.length:=hM.len
 intro i hi
 show tm (bW (fun k=>k) (endX s x ties).now nodes (endX s x ties).times) i=_
 rw [qh _ _ _ _ _ hi (fun k hk=>by obtain ⟨j,hj,e,_,_⟩:=mU (hm k hk);omega),List.map_id',qR hx ha hi]
 rfl
theorem Cr {s:GShow}{x:GState}(hx:aI s x=true){i:Nat}(hi:i<s.nodes.length)(hl:eU (dB s i) x.values=1){l:Int}(hm:l∈dB s i) :
  0≤bF s (pr l)∧bF s (pr l)<s.nodes.length∧tm x.times (bF s (pr l))≠-1∧tm x.times (bF s (pr l))+1≤x.now:=by
 have hR:=ch hx
 have h1:=(EU.1 hl) l hm
 have hlo:=tF hR.ok hi
 rw [pz hi] at hm
 obtain ⟨p1,p2,p3⟩:=wz hlo.1 hm
 have p4:=zY p2 p3
 have hne:tm x.values (pr l - 1)≠0:=by
  unfold litV at h1
  split at h1 <;> omega
 have hx2:=hx
 unfold aI at hx2
 simp only [Bool.and_eq_true,decide_eq_true_eq] at hx2
 have hw:=hx2.2 (pr l - 1).toNat (by unfold gJ;omega)
 unfold kl at hw
 rw [show (((pr l - 1).toNat:Nat):Int)=pr l - 1 by omega] at hw
 change (decide (tm x.values (pr l - 1)≠0) == (decide (0≤bF s (pr l - 1+1))&&decide (tm x.times (bF s (pr l - 1+1))≠-1)))=true at hw
 rw [show pr l - 1+1=pr l by omega,decide_eq_true hne] at hw
 simp only [beq_iff_eq,Bool.true_eq,Bool.and_eq_true,decide_eq_true_eq] at hw
 obtain ⟨w1,w2⟩:=hw
 obtain ⟨j,hj,e,hq,_⟩:=gw (show 0≤aP s.nodes (fun n=>decide (n.watch=pr l)) from w1)
 have e':bF s (pr l)=(j:Int):=e
 refine ⟨w1,by rw [e'];omega,w2,?_⟩
 have hj0:j≠0:=by
  rintro rfl
  have:=(Cp hR.ok).2 hj
  simp only [decide_eq_true_eq] at hq
  omega
 have htp:=hx2.1.2 j (by rw [hR.len];exact hj)
 unfold mb at htp
 rw [if_neg hj0,decide_eq_true_eq] at htp
 rw [e'];omega
theorem Ok {s:GShow}{c:GChoice}{x:GState}(hx:aI s x=true)(hc:bX s c=true)(hI:tI s c x)(ht:endL s x c∈cg s x){nodes:List Int}(hn:nodes∈decL s (endX s x (endL s x c))) :
  tI s c (obsX (decX (endX s x (endL s x c)) nodes) (aL s nodes) (df c.values (aL s nodes))):=by
 have hR:=ch hx
 have hok:=hR.ok
 obtain ⟨hh,_,ha⟩:=jy hok ht
 have hM:=kq hx ht
 obtain ⟨_,_,hm⟩:=fG hM.right hn
 have hE:=Ob hx hh ht hn (df c.values (aL s nodes))
 have hT:=Cq hx ht hn (df c.values (aL s nodes))
 have heL:endL s x c=(actL s x).filter (fun k=>!endP s x c k):=by unfold endL;rw [if_pos ⟨hx,hc⟩]
 have hx2:=hx
 unfold aI at hx2
 simp only [Bool.and_eq_true,decide_eq_true_eq] at hx2
 have htp:∀ j:Nat,j<s.nodes.length→j≠0→tm x.times (j:Int)≤x.now - 1:=by
  intro j hj hj0
  have h5:=hx2.1.2 j (by rw [hR.len];exact hj)
  unfold mb at h5
  rw [if_neg hj0,decide_eq_true_eq] at h5
  exact h5.2
 have hV:(obsX (decX (endX s x (endL s x c)) nodes) (aL s nodes) (df c.values (aL s nodes))).values=setV (aL s nodes) ((aL s nodes).map (fun p=>tm c.values (p - 1))) x.values (aL s nodes).length:=rfl
 have hN:(obsX (decX (endX s x (endL s x c)) nodes) (aL s nodes) (df c.values (aL s nodes))).now=x.now+1:=rfl
 generalize hz:obsX (decX (endX s x (endL s x c)) nodes) (aL s nodes) (df c.values (aL s nodes))=z at *
 have newN:∀ i:Int,i∈nodes→∃ j:Nat,i=(j:Int)∧j<s.nodes.length∧0<j∧lb s (j:Int)<0∧eU (dB s j) x.values=1:=by
  intro i hi
  obtain ⟨j,hj,hp,rfl⟩:=cW.1 (hm i hi)
  unfold enAt chAt opAt at hp
  simp only [Bool.and_eq_true,decide_eq_true_eq] at hp
  exact ⟨j,rfl,hj,hp.1.1,hp.1.2,hp.2.2⟩
 have newT:∀ i:Int,i∈(endL s x c).map (fun k=>(aG s k).to)→∃ k,∃ hk:k<s.ties.length,s.ties[k].free=true∧s.ties[k].to=i∧tm x.times s.ties[k].from_≠-1∧tm x.times i=-1∧¬ x.now - tm x.times s.ties[k].from_<bJ s c (k:Int):=by
  intro i hi
  rw [List.mem_map] at hi
  obtain ⟨k,hk,rfl⟩:=hi
  obtain ⟨j,hj,rfl,h1,h2,h3⟩:=la (ha k hk)
  rw [heL,List.mem_filter] at hk
  have h4:=hk.2
  unfold endP at h4
  rw [bo hj] at h4 ⊢
  simp only [Bool.not_eq_true',decide_eq_false_iff_not] at h4
  exact ⟨j,hj,h1,rfl,h2,h3,h4⟩
 have labN:∀ i:Nat,i<s.nodes.length→eU (dB s i) x.values=1→eU (dB s i) z.values=1:=by
  intro i hi hl
  have:=Oc hR hE (i:=(i:Int)) (by omega) (by omega) (by unfold Ck;rw [decide_eq_true_eq];exact hl)
  unfold Ck at this
  rw [decide_eq_true_eq] at this
  exact this
 have litN:∀ i:Nat,i<s.nodes.length→eU (dB s i) x.values=1→x.now≤tm z.times (i:Int)→∀ l,l∈dB s i→tm z.times (bF s (pr l))≠-1∧tm z.times (bF s (pr l))+1≤tm z.times (i:Int):=by
  intro i hi hl hnow l hm
  obtain ⟨w1,w2,w3,w4⟩:=Cr hx hi hl hm
  rw [hE.t1 _ w1 w2 w3]
  exact ⟨w3,by omega⟩
 have fromLab:∀ k (hk:k<s.ties.length),s.ties[k].free=true→tm x.times s.ties[k].from_≠-1→∀ i:Nat,s.ties[k].to=(i:Int)→eU (dB s i) x.values=1:=by
  intro k hk hf hne i hi
  have hTk:=hR.right.tie _ (List.getElem_mem hk)
  have h1:=hI.lab s.ties[k].from_.toNat (by have:=hTk.f0;have:=hTk.f1;omega) (by rw [show ((s.ties[k].from_.toNat:Nat):Int)=s.ties[k].from_ by have:=hTk.f0;omega];exact hne)
  rw [← Lm hok hk hf,hi,Int.toNat_natCast] at h1
  exact h1
 refine ⟨?_,?_,?_,?_,?_,?_⟩
 ·intro k h1 h2 hne
  by_cases h0:tm x.values k=0
  ·rw [hV] at hne ⊢
   by_cases hin:∃ i,i<(aL s nodes).length∧(aL s nodes).getD i 0 - 1=k
   ·rw [HY _ (bK hR.val).1 (fun p hp=>⟨(bU hp).1,(bU hp).2.1⟩) _ (Nat.le_refl _) k h1 hin]
    simp only [Int.add_sub_cancel]
   ·rw [tH (bK hR.val).1 (fun p hp=>⟨(bU hp).1,(bU hp).2.1⟩) _ (Nat.le_refl _) k h1 (fun i hi he=>hin ⟨i,hi,he⟩)] at hne
    exact absurd h0 hne
  ·rw [hE.v k h1 h0]
   exact hI.val k h1 h2 h0
 ·intro i hi hne
  refine labN i hi ?_
  rw [hT _ (by omega)] at hne
  by_cases h1:(i:Int)∈nodes
  ·obtain ⟨j,e,_,_,_,h2⟩:=newN _ h1
   obtain rfl:i=j:=by omega
   exact h2
  ·rw [if_neg h1] at hne
   by_cases h2:(i:Int)∈(endL s x c).map (fun k=>(aG s k).to)
   ·obtain ⟨k,hk,hf,e,h3,h4,_⟩:=newT _ h2
    exact fromLab k hk hf h3 i e
   ·rw [if_neg h2] at hne
    exact hI.lab i hi hne
 ·intro i hi hne l hl
  by_cases h1:(i:Int)∈nodes
  ·obtain ⟨j,e,_,_,_,h2⟩:=newN _ h1
   obtain rfl:i=j:=by omega
   exact litN i hi h2 (by rw [hT _ (by omega),if_pos h1];exact Int.le_refl _) l hl
  ·by_cases h2:(i:Int)∈(endL s x c).map (fun k=>(aG s k).to)
   ·obtain ⟨k,hk,hf,e,h3,h4,_⟩:=newT _ h2
    exact litN i hi (fromLab k hk hf h3 i e) (by rw [hT _ (by omega),if_neg h1,if_pos h2];exact Int.le_refl _) l hl
   ·have hne':tm x.times (i:Int)≠-1:=by rw [hT _ (by omega),if_neg h1,if_neg h2] at hne;exact hne
    obtain ⟨w3,w4⟩:=hI.lit i hi hne' l hl
    obtain ⟨w1,w2,_,_⟩:=Cr hx hi (hI.lab i hi hne') hl
    rw [hE.t1 _ w1 w2 w3,hE.t1 (i:Int) (by omega) (by omega) hne']
    exact ⟨w3,w4⟩
 ·intro i hi hf hne
  have hTi:=hR.right.tie _ (List.getElem_mem hi)
  have hfr:tm x.times s.ties[i].from_≠-1:=by
   rw [hT _ hTi.t0] at hne
   by_cases h1:s.ties[i].to∈nodes
   ·obtain ⟨j,e,hj,_,h3,_⟩:=newN _ h1
    have:=ig (xs:=s.ties) (q:=fun t=>t.free&&decide (t.to=(j:Int)))
    unfold lb at h3
    rw [decide_eq_false (by omega)] at this
    have h4:=this.symm
    rw [List.any_eq_false] at h4
    exact absurd (by rw [hf,decide_eq_true e];rfl) (h4 s.ties[i] (List.getElem_mem hi))
   ·rw [if_neg h1] at hne
    by_cases h2:s.ties[i].to∈(endL s x c).map (fun k=>(aG s k).to)
    ·obtain ⟨k,hk,hfk,e,h3,h4,_⟩:=newT _ h2
     obtain rfl:=rz hok hk hi hfk hf e
     exact h3
    ·rw [if_neg h2] at hne
     exact hI.ord i hi hf hne
  rw [hE.t1 _ hTi.f0 hTi.f1 hfr]
  exact hfr
 ·intro i hi hf hne hop
  have hTi:=hR.right.tie _ (List.getElem_mem hi)
  have hlen:=zZ hc hok hi hf
  have hlow:=(cO hok hi hf).low
  have hop':tm x.times s.ties[i].to=-1:=by
   refine Classical.byContradiction (fun h1=>?_)
   rw [hE.t1 _ hTi.t0 hTi.t1 h1] at hop
   exact h1 hop
  rw [hN]
  by_cases hfr:tm x.times s.ties[i].from_=-1
  ·have:tm z.times s.ties[i].from_=x.now:=by
    rw [hT _ hTi.f0] at hne ⊢
    by_cases h1:s.ties[i].from_∈nodes
    ·rw [if_pos h1]
    ·rw [if_neg h1] at hne ⊢
     by_cases h2:s.ties[i].from_∈(endL s x c).map (fun k=>(aG s k).to)
     ·rw [if_pos h2]
     ·rw [if_neg h2] at hne;exact absurd hfr hne
   omega
  ·rw [hE.t1 _ hTi.f0 hTi.f1 hfr]
   have hact:(i:Int)∈actL s x:=by
    refine cW.2 ⟨i,hi,?_,rfl⟩
    unfold mc actT
    rw [List.getElem?_eq_getElem hi]
    simp only [Option.any_some,hf,Bool.true_and,decide_eq_true_eq]
    exact ⟨hfr,hop'⟩
   have hnot:¬ (i:Int)∈endL s x c:=by
    intro hin
    have:s.ties[i].to∈(endL s x c).map (fun k=>(aG s k).to):=List.mem_map.2 ⟨(i:Int),hin,by rw [bo hi]⟩
    have h1:=hT _ hTi.t0
    rw [if_pos this] at h1
    have h2:=hR.now
    split at h1 <;> omega
   have hlt:x.now - tm x.times s.ties[i].from_<bJ s c (i:Int):=by
    refine Classical.byContradiction (fun h1=>hnot ?_)
    rw [heL,List.mem_filter]
    refine ⟨hact,?_⟩
    unfold endP
    rw [bo hi,decide_eq_false h1];rfl
   omega
 ·intro i hi hf hne
  have hTi:=hR.right.tie _ (List.getElem_mem hi)
  by_cases hto:tm x.times s.ties[i].to=-1
  ·have h0:=hT _ hTi.t0
   by_cases h1:s.ties[i].to∈nodes
   ·obtain ⟨j,e,hj,_,h3,_⟩:=newN _ h1
    have:=ig (xs:=s.ties) (q:=fun t=>t.free&&decide (t.to=(j:Int)))
    unfold lb at h3
    rw [decide_eq_false (by omega)] at this
    have h4:=this.symm
    rw [List.any_eq_false] at h4
    exact absurd (by rw [hf,decide_eq_true e];rfl) (h4 s.ties[i] (List.getElem_mem hi))
   ·rw [if_neg h1] at h0
    by_cases h2:s.ties[i].to∈(endL s x c).map (fun k=>(aG s k).to)
    ·rw [if_pos h2] at h0
     obtain ⟨k,hk,hfk,e,h3,h4,h5⟩:=newT _ h2
     obtain rfl:=rz hok hk hi hfk hf e
     have:=hI.act k hk hf h3 hto
     rw [h0,hE.t1 _ hTi.f0 hTi.f1 h3]
     omega
    ·rw [if_neg h2] at h0
     rw [h0] at hne
     exact absurd hto hne
  ·have hfr:=hI.ord i hi hf hto
   rw [hE.t1 _ hTi.t0 hTi.t1 hto,hE.t1 _ hTi.f0 hTi.f1 hfr]
   exact hI.fin i hi hf hto
theorem HZ (c:GChoice):∀ (n:Nat) (d:GDesk),dn d=true→bX d.show_ c=true→tI d.show_ c d.state→tI d.show_ c (runF c n d).1.state∧(runF c n d).1.show_=d.show_
 | 0,d,_,_,hI=>⟨hI,rfl⟩
 | n+1,d,hd,hc,hI=>by
  unfold runF
  by_cases h0:(bD c d).2.2=0
  ·rw [if_pos h0]
   unfold bD at h0 ⊢
   obtain ⟨hg,nd,hnd,he⟩:=Cn h0
   have hmem:nd∈decL d.show_ (endX d.show_ d.state (endL d.show_ d.state c)):=by
    unfold xJ at hnd
    exact (qi hnd).1
   rw [he]
   have h1:=HV hg hmem
   have h2:=Ok (lM hd) hc hI (nH hg).2.2.1 hmem
   exact HZ c n _ h1 hc h2
  ·rw [if_neg h0]
   exact ⟨hI,rfl⟩
end Go.Proofs.Qd
set_option maxRecDepth 100000
set_option maxHeartbeats 1000000
namespace Go.Proofs.Qd
open Go Go.Lib
theorem Cs (l:List UInt8):bs (ofL l)=l:=by simp [bs,ofL]
theorem MQ (s:ByteArray):ofL (bs s)=s:=by
 cases s;simp [bs,ofL]
theorem Ub {a b:ByteArray}(h:bs a=bs b):a=b:=by rw [← MQ a,h,MQ]
theorem ww (a b:ByteArray):bs (a++b)=bs a++bs b:=by
 unfold bs;rw [ByteArray.data_append,Array.toList_append]
theorem DQ (s:ByteArray):s.size=(bs s).length:=by unfold bs;rw [Array.length_toList];rfl
def i64 (n:Int):Prop:=-9223372036854775808≤n∧n≤9223372036854775807
theorem FF {u:Nat}(h:¬ u<10):decDigits u=decDigits (u / 10)++[UInt8.ofNat (48+u % 10)]:=by rw [decDigits,dif_neg h]
theorem so {u:Nat}(h:u<10):decDigits u=[UInt8.ofNat (48+u)]:=by rw [decDigits,dif_pos h]
theorem qw:∀ (k u:Nat),u<10^(k+1)→(decDigits u).length≤k+1
 | 0,u,h=>by rw [so (by omega)];simp
 | k+1,u,h=>by
  by_cases h1:u<10
  ·rw [so h1];simp
  ·rw [FF h1,List.length_append,List.length_singleton]
   have:=qw k (u / 10) (by rw [Nat.pow_succ] at h;omega)
   omega
theorem Aa {n:Int}(h:i64 n):(itoa n).length≤20:=by
 have h1:=h.1
 have h2:=h.2
 unfold itoa;split
 ·have:=qw 18 n.natAbs (by omega)
  simp only [List.length_cons];omega
 ·have:=qw 18 n.toNat (by omega)
  omega
theorem mg {n:Int}(h:i64 n):dh n=some (ofL (itoa n)):=by
 unfold dh lZ Km
 rw [if_pos (show -9223372036854775808≤n∧n≤9223372036854775807 from h)];rfl
def val (l:List UInt8):Nat:=l.foldl (fun a c=>a*10+(c.toNat - 48)) 0
end Go.Proofs.Qd
set_option maxRecDepth 100000
set_option maxHeartbeats 1000000
namespace Go.Proofs.Qd
open Go Go.Lib
theorem Ol {B:Nat}(sep:List UInt8)(xs:List (List UInt8))(h:∀ x,x∈xs→x.length≤B):(Lib.join xs sep).length≤xs.length*(B+sep.length):=by
 have key:∀ xs:List (List UInt8),(∀ x,x∈xs→x.length≤B)→(joinTail sep xs).length≤xs.length*(B+sep.length):=by
  intro xs
  induction xs with
  | nil=>intro _;simp [joinTail]
  | cons x r ih=>
   intro h
   have h1:=ih (fun y hy=>h y (by simp [hy]))
   have h2:=h x (by simp)
   simp only [joinTail,List.map_cons,List.flatten_cons,List.length_append,List.length_cons] at h1 ⊢
   rw [Nat.succ_mul];omega
 cases xs with
 | nil=>simp [Lib.join_nil]
 | cons x r=>
  rw [Lib.join_cons,List.length_append,List.length_cons,Nat.succ_mul]
  have h1:=key r (fun y hy=>h y (by simp [hy]))
  have h2:=h x (by simp)
  omega
def Ln (l:List ByteArray)(sep:ByteArray):ByteArray:=ofL (Lib.join (l.map bs) (bs sep))
theorem MR (l:List ByteArray)(sep:ByteArray)(h1:l.length≤1073741824)(h2:(Lib.join (l.map bs) (bs sep)).length≤1099511627776):jx l sep=some (Ln l sep):=by
 unfold jx ma Kn
 rw [if_pos ⟨by omega,by omega⟩];rfl
end Go.Proofs.Qd
