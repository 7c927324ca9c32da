/- The reference's game reckons winning too. Own work. -/
import Derived.Test.YtghfphjfkdbpjaaGreatAP33
import Derived.Test.YtghfphjfkdbpjaaGreatAP24
set_option linter.all false
set_option maxRecDepth 100000
namespace Go.Proofs.QA
open Go
end Go.Proofs.QA
set_option maxRecDepth 100000
namespace Go.Proofs.QA
open Go
theorem Bu {α:Type}{l:List α}{n:Nat}{x:α}(h:n<l.length):(l.set n x).take (n+1)=l.take n++[x]:=by
 have e:(l.set n x).take n=l.take n:=by
  apply List.ext_getElem?
  intro i
  rw [List.getElem?_take,List.getElem?_take]
  split
  ·rw [List.getElem?_set_ne (by omega)]
  ·rfl
 rw [dW (by simp;exact h),e]
 simp
theorem Hm {α:Type}{xs ys:List α}{i:Nat}(h:i+ys.length≤xs.length):(putL xs i ys).take i=xs.take i:=by
 unfold putL
 rw [if_pos h,List.append_assoc,List.take_append_of_le_length (by rw [List.length_take];omega),List.take_take]
 simp
theorem Hn {α β ρ:Type}(xs:List α)(q:α→Bool)(I:β→Prop)(body:Int × β→Option (Step (Int × β) ρ))(rT:β→ρ)(rF:Int→β→ρ)
  (h1:∀ i (hi:i<xs.length) k,I k→∃ k',I k'∧body ((i:Int),k)=some (if q xs[i]=true then .done (rF (i:Int) k') else .next ((i:Int)+1,k')))
  (h2:∀ k,I k→body ((xs.length:Int),k)=some (.done (rT k))) (k:β) (hk:I k) :
  ∃ k',I k'∧aq body (0,k)=some (if 0≤aI xs q then rF (aI xs q) k' else rT k'):=by
 have key:=bL (body:=body) (s0:=((0:Int),k)) xs.length (fun i st=>st.1=(i:Int)∧I st.2∧∀ j (hj:j<xs.length),j<i→q xs[j]=false)
  (fun r=>∃ k',I k'∧r=(if 0≤aI xs q then rF (aI xs q) k' else rT k')) ⟨rfl,hk,fun j _ h=>absurd h (by omega)⟩ ?_ ?_
 ·obtain ⟨r,hr,hp⟩:=key
  obtain ⟨k',h3,rfl⟩:=hp
  exact ⟨k',h3,hr⟩
 ·rintro i ⟨a,k⟩ hi ⟨rfl,hI,hall⟩
  obtain ⟨k',hk',hb⟩:=h1 i hi k hI
  cases hq:q xs[i]
  ·rw [hq,if_neg (by simp)] at hb
   refine .inl ⟨_,hb,rfl,hk',fun j hj hlt=>?_⟩
   rcases Nat.lt_or_ge j i with h | h
   ·exact hall j hj h
   ·obtain rfl:j=i:=by omega
    exact hq
  ·rw [hq,if_pos rfl] at hb
   refine .inr ⟨_,hb,k',hk',?_⟩
   have:aI xs q=(i:Int):=by
    unfold aI
    have:xs.findIdx? q=some i:=by
     rw [List.findIdx?_eq_some_iff_getElem]
     exact ⟨hi,hq,fun j hj=>by simp [hall j (by omega) hj]⟩
    rw [this]
   rw [this,if_pos (by omega)]
 ·rintro ⟨a,k⟩ ⟨rfl,hI,hall⟩
  refine ⟨_,h2 k hI,k,hI,?_⟩
  rw [if_neg]
  intro h0
  obtain ⟨j,hj,_,hq,_⟩:=gD h0
  rw [hall j hj hj] at hq
  cases hq
theorem BY {α:Type}{xs:List α}{q:α→Bool}(h:¬ 0≤aI xs q):aI xs q=-1∧xs.any q=false:=by
 constructor
 ·unfold aI at h ⊢
  cases hf:xs.findIdx? q with
  | none=>rfl
  | some j=>rw [hf] at h;simp at h
 ·rw [← lp];exact decide_eq_false h
section
variable {s:GShow} {y:GState}
theorem JZ (hs:bw s)(h:MomR s y){nodes:List Int}(hn:nodes∈decL s y){known:List (ByteArray × Bool)}(hk:bE s known) :
  ∃ known',bE s known'∧dd nodes s known y=some (!cM (win s) s y nodes,known'):=by
 obtain ⟨k',hk',e⟩:=yk (FY hs _ (by have:=h.now;omega)) h hn hk
 refine ⟨k',hk',?_⟩
 unfold dd kV
 rw [e];rfl
theorem Bv (hs:bw s)(h:MomR s y)(xs:List (List Int))(hx:∀ nd,nd∈xs→nd∈decL s y)(hl:xs.length≤128){known:List (ByteArray × Bool)}(hk:bE s known) :
  ∃ known',bE s known'∧aU xs s known y=some (aI xs (fun nd=>!cM (win s) s y nd),xs,known'):=by
 unfold aU
 have key:=Hn xs (fun nd=>!cM (win s) s y nd) (bE s) (aP ((xs.length:Nat):Int) xs s.nodes s.ties s.horizon y.now y.times y.values)
  (fun k=>.inl k) (fun i k=>.inr (i,xs,k)) ?_ ?_ known hk
 ·obtain ⟨k',hk',e⟩:=key
  rw [e]
  refine ⟨k',hk',?_⟩
  simp only [obnd]
  by_cases h0:0≤aI xs (fun nd=>!cM (win s) s y nd)
  ·rw [if_pos h0]
  ·rw [if_neg h0,(BY h0).1]
 ·intro i hi k hk
  obtain ⟨k',hk',e⟩:=JZ hs h (hx _ (List.getElem_mem hi)) hk
  refine ⟨k',hk',?_⟩
  unfold aP
  try simp only
  rw [if_pos (by omega),aB hi]
  simp only [obnd]
  rw [show (GShow.mk s.nodes s.ties s.horizon)=s from rfl,show (GState.mk y.now y.times y.values)=y from rfl,e]
  simp only
  rw [wr (by omega) (by omega)]
  cases cM (win s) s y xs[i] <;> rfl
 ·intro k _
  unfold aP
  try simp only
  rw [if_neg (by omega)]
theorem Aw (hs:bw s)(h:MomR s y)(xs:List (List Int))(hx:∀ nd,nd∈xs→nd∈decL s y)(hl:xs.length≤128){known:List (ByteArray × Bool)}(hk:bE s known) :
  ∃ known',bE s known'∧aS xs s known y=some (xs.filter (fun nd=>cM (win s) s y nd),known'):=by
 obtain ⟨k1,hk1,e1⟩:=Bv hs h xs hx hl hk
 have hfn:xs.filter (fun nd=>cM (win s) s y nd)=xs.filter (fun nd=>!(!cM (win s) s y nd)):=by simp
 rw [hfn]
 unfold aS
 rw [e1]
 simp only [obnd]
 generalize hq':(fun nd=>!cM (win s) s y nd)=q at *
 have hq:∀ nd,q nd=!cM (win s) s y nd:=fun nd=>by rw [← hq']
 have hff:(fun nd=>!(!cM (win s) s y nd))=(fun x=>!q x):=by funext nd;rw [hq]
 rw [hff]
 by_cases h0:0≤aI xs q
 ·obtain ⟨i0,hi0,he,hq0,hno⟩:=gD h0
  rw [he,if_neg (by omega),wr (x:=(i0:Int)+1) (by omega) (by omega)]
  have htake:(xs.take i0).filter (fun x=>!q x)=xs.take i0:=by
   rw [List.filter_eq_self]
   intro x hm
   obtain ⟨j,hj,rfl⟩:=List.getElem_of_mem hm
   rw [List.length_take] at hj
   rw [List.getElem_take,hno j (by omega)];rfl
  have inv:∃ r,aq (aO xs.length s.nodes s.ties s.horizon y.now y.times y.values) ((i0:Int),(i0:Int)+1,xs,k1)=some r∧(r.1=(((xs.filter (fun x=>!q x)).length:Nat):Int)∧r.2.1.length=xs.length∧r.2.1.take (xs.filter (fun x=>!q x)).length=xs.filter (fun x=>!q x)∧bE s r.2.2):=by
   refine bL (xs.length - (i0+1)) (fun (k:Nat) (s':Int × Int × List (List Int) × List (ByteArray × Bool))=>s'.2.1=((i0+1+k:Nat):Int)∧s'.1=((((xs.take (i0+1+k)).filter (fun x=>!q x)).length:Nat):Int)∧s'.2.2.1.length=xs.length ∧
    s'.2.2.1.take ((xs.take (i0+1+k)).filter (fun x=>!q x)).length=(xs.take (i0+1+k)).filter (fun x=>!q x)∧(∀ j,i0+1+k≤j→s'.2.2.1[j]?=xs[j]?)∧((xs.take (i0+1+k)).filter (fun x=>!q x)).length<i0+1+k∧bE s s'.2.2.2) _ ?_ ?_ ?_
   ·have e1:(xs.take (i0+1)).filter (fun x=>!q x)=xs.take i0:=by
     rw [dW hi0,List.filter_append,htake]
     simp [hq0]
    have hl:(xs.take i0).length=i0:=by rw [List.length_take];omega
    refine ⟨by simp only;omega,?_,rfl,?_,fun _ _=>rfl,?_,hk1⟩
    ·simp only [Nat.add_zero];rw [e1,hl]
    ·simp only [Nat.add_zero];rw [e1,hl]
    ·simp only [Nat.add_zero];rw [e1,hl];omega
   ·rintro k ⟨v5,v6,v0,kn⟩ hk ⟨h1,h2,h3,h4,h5,h6,h7⟩
    simp only at h1 h2 h3 h4 h5 h6 h7
    have hj:i0+1+k<xs.length:=by omega
    have hg:getI v0 v6=some xs[i0+1+k]:=by
     unfold getI
     rw [h1,if_pos (by omega),Int.toNat_natCast,h5 _ (Nat.le_refl _),List.getElem?_eq_getElem hj]
    obtain ⟨kn',hkn',ec⟩:=JZ hs h (hx _ (List.getElem_mem hj)) h7
    left
    unfold aO
    simp only
    rw [if_pos (by omega),au (by omega),hg,wr (x:=v6+1) (by omega) (by omega)]
    simp only [obnd]
    rw [show (GShow.mk s.nodes s.ties s.horizon)=s from rfl,show (GState.mk y.now y.times y.values)=y from rfl,ec,← hq]
    simp only
    cases hqq:q xs[i0+1+k]
    ·have e2:(xs.take (i0+1+(k+1))).filter (fun x=>!q x)=(xs.take (i0+1+k)).filter (fun x=>!q x)++[xs[i0+1+k]]:=by
      rw [show i0+1+(k+1)=i0+1+k+1 by omega,dW hj,List.filter_append]
      simp [hqq]
     have hv5:getI v0 v5=some v0[((xs.take (i0+1+k)).filter (fun x=>!q x)).length]:=by rw [h2,aB (by omega)]
     rw [if_neg (by simp),au (by omega),hv5,wr (x:=v5+1) (by omega) (by omega)]
     refine ⟨_,rfl,by simp only;omega,?_,?_,?_,?_,?_,hkn'⟩
     ·simp only;rw [e2,List.length_append,h2];simp
     ·simp only [List.length_set];exact h3
     ·simp only;rw [e2,List.length_append,h2,Int.toNat_natCast]
      simp only [List.length_cons,List.length_nil,Nat.zero_add]
      rw [Bu (by omega),h4]
     ·intro j hj'
      simp only
      rw [h2,Int.toNat_natCast,List.getElem?_set_ne (by omega)]
      exact h5 j (by omega)
     ·rw [e2,List.length_append];simp;omega
    ·have e2:(xs.take (i0+1+(k+1))).filter (fun x=>!q x)=(xs.take (i0+1+k)).filter (fun x=>!q x):=by
      rw [show i0+1+(k+1)=i0+1+k+1 by omega,dW hj,List.filter_append]
      simp [hqq]
     rw [if_pos rfl]
     refine ⟨_,rfl,by simp only;omega,?_,h3,?_,fun j hj'=>h5 j (by omega),?_,hkn'⟩
     ·simp only;rw [e2];exact h2
     ·simp only;rw [e2];exact h4
     ·rw [e2];omega
   ·rintro ⟨v5,v6,v0,kn⟩ ⟨h1,h2,h3,h4,h5,h6,h7⟩
    simp only at h1 h2 h3 h4 h7
    have hall:i0+1+(xs.length - (i0+1))=xs.length:=by omega
    rw [hall] at h1 h2 h4
    rw [List.take_length] at h2 h4
    unfold aO
    simp only
    rw [if_neg (by omega)]
    exact ⟨_,rfl,h2,h3,h4,h7⟩
  obtain ⟨⟨v5,v0,kn⟩,hr,h1,h2,h3,h4⟩:=inv
  rw [hr]
  simp only at h1 h2 h3 h4 ⊢
  have hle:=List.length_filter_le (fun x=>!q x) xs
  subst h1
  simp only [Int.toNat_natCast]
  rw [au (by omega),au (by omega),au (by omega),au (by omega),au (by rw [xZ];omega),au (by omega),Hm (by rw [List.length_replicate];omega),h3]
  exact ⟨kn,h4,rfl⟩
 ·obtain ⟨h2,h1⟩:=BY h0
  rw [if_pos h2,au (Nat.le_refl _),List.take_length]
  refine ⟨k1,hk1,?_⟩
  congr 2
  symm
  rw [List.filter_eq_self]
  intro x hm
  rw [List.any_eq_false] at h1
  have:=h1 x hm
  cases hqx:q x
  ·rfl
  ·exact absurd hqx this
theorem JE (hs:bw s)(h:MomR s y){known:List (ByteArray × Bool)}(hk:bE s known) :
  ∃ known',bE s known'∧ib s known y=some ((decL s y).filter (cM (win s) s y),known'):=by
 obtain ⟨k',hk',e⟩:=Aw hs h (decL s y) (fun _ h=>h) (vH h.right y) hk
 refine ⟨k',hk',?_⟩
 unfold ib
 rw [tG hs h]
 simp only [obnd]
 rw [e]
end
def vL (lazy:Bool)(l:List (List Int))(p:List Int→Bool):Option (List Int):=if lazy=true then l.reverse.find? p else l.find? p
theorem JF (l:List (List Int))(p:List Int→Bool)(lazy:Bool)(hl:l.length≤128) :
  kW (l.filter p) lazy=some (match vL lazy l p with | some nd=>(nd,true) | none=>([],false)):=by
 have hle:=List.length_filter_le p l
 unfold kW vL
 have e1:l.find? p=(l.filter p).head?:=(List.head?_filter).symm
 have e2:l.reverse.find? p=(l.filter p).getLast?:=by rw [← List.head?_filter,List.filter_reverse,List.head?_reverse]
 rw [e1,e2]
 generalize l.filter p=m at *
 by_cases h0:m=[]
 ·subst h0
  rw [if_pos (by simp)]
  cases lazy <;> rfl
 ·have hpos:0<m.length:=List.length_pos_iff.2 h0
  rw [if_neg (by omega)]
  cases lazy
  ·simp only [Bool.false_eq_true,if_false]
   have:getI m ((0:Nat):Int)=some m[0]:=aB hpos
   rw [show ((0:Nat):Int)=0 from rfl] at this
   rw [this,List.head?_eq_getElem?,List.getElem?_eq_getElem hpos];rfl
  ·simp only [if_true]
   rw [wr (by omega) (by omega),show ((m.length:Nat):Int) - 1=((m.length - 1:Nat):Int) by omega,aB (by omega),List.getLast?_eq_getElem?,List.getElem?_eq_getElem (by omega)];rfl
end Go.Proofs.QA
set_option maxRecDepth 100000
namespace Go.Proofs.QA
open Go
theorem Ho (log:List GEntry)(hl:log.length≤1048576)(he:∀ e,e∈log→FitE e):ju log=some log:=by
 unfold ju
 have key:aq (gj log ((log.length:Nat):Int)) (((0:Nat):Int),log.take 0)=some log:=by
  refine aV log.length (fun i=>((i:Int),log.take i)) ?_ ?_
  ·intro i hi
   have hf:=he _ (List.getElem_mem hi)
   unfold gj
   try simp only
   rw [if_pos (by omega),aB hi]
   simp only [obnd]
   rw [fP _ hf.ties,fP _ hf.nodes,fP _ hf.values]
   simp only
   rw [au (by rw [List.length_take];omega),au (by rw [List.length_take];omega),wr (by omega) (by omega),List.take_succ_eq_append_getElem hi];rfl
  ·unfold gj
   try simp only
   rw [if_neg (by omega),List.take_length]
 simp only [Int.natCast_zero,List.take_zero] at key
 rw [key];rfl
theorem yl (d:GDesk)(h:FitD d):fV d=some d:=by
 unfold fV
 rw [yb _ h.sh]
 simp only [obnd]
 rw [pR _ h.st.times h.st.values]
 simp only
 rw [Ho _ h.log h.entry]
def pmB (values:List Int):Bool:=decide (values.length=3)&&values.all (fun v=>decide (v=1) || decide (v=-1))
noncomputable def cw (d:GDesk)(ties values:List Int):Int:=
 if cQ d=true then (if pmB values=true then (if og d.show_ d.state=true then 2 else if sM d.show_ d.state=true then 2 else if d.show_.horizon<d.state.now then 2 else if ties∈dL d.show_ d.state then 0 else 3) else 1) else 1
def dM (values ps:List Int):List Int:=ps.map (fun p=>tm values (p - 1))
def litL (values ps:List Int):List Int:=ps.map (fun p=>p*tm values (p - 1))
noncomputable def finD (d:GDesk)(ties values nodes:List Int):GDesk:=
 ⟨d.show_,obsX (decX (endX d.show_ d.state ties) nodes) (aF d.show_ nodes) (dM values (aF d.show_ nodes)),d.lazy,d.log++[⟨d.state.now,ties,nodes,litL values (aF d.show_ nodes)⟩]⟩
noncomputable def mO (d:GDesk)(ties values:List Int)(refused:Int)(c:Option (List Int)):GDesk × List Int × Int:=
 if cw d ties values=0 then (match c with | some nd=>(finD d ties values nd,nd,0) | none=>(d,[],refused)) else (d,[],cw d ties values)
theorem rL {d:GDesk}(h:cQ d=true):aD d.show_ d.state=true:=by
 unfold cQ at h
 simp only [Bool.and_eq_true] at h
 exact h.1.1.1
theorem lg {d:GDesk}{ties values:List Int}(h:cw d ties values=0):cQ d=true∧pmB values=true∧ties∈dL d.show_ d.state∧og d.show_ d.state=false∧sM d.show_ d.state=false∧¬ d.show_.horizon<d.state.now:=by
 unfold cw at h
 split at h
 ·rename_i h1
  split at h
  ·rename_i h2
   split at h
   ·omega
   ·rename_i h3
    split at h
    ·omega
    ·rename_i h4
     split at h
     ·omega
     ·rename_i h5
      split at h
      ·rename_i h6
       exact ⟨h1,h2,h6,by simpa using h3,by simpa using h4,h5⟩
      ·omega
  ·omega
 ·omega
theorem JG {values:List Int}(h:pmB values=true):values.length=3∧∀ v,v∈values→v=1∨v=-1:=by
 unfold pmB at h
 rw [Bool.and_eq_true,decide_eq_true_eq,List.all_eq_true] at h
 exact ⟨h.1,fun v hv=>by have:=h.2 v hv;simpa using this⟩
theorem Hq {values:List Int}(h:pmB values=true){k:Int}(h0:0≤k)(h1:k<3):tm values k=1∨tm values k=-1:=by
 obtain ⟨h2,h3⟩:=JG h
 unfold tm
 rw [List.getElem?_eq_getElem (show k.toNat<values.length by omega)]
 exact h3 _ (List.getElem_mem _)
theorem NR {values:List Int}(h3:values.length=3):values.any (fun v=>!(decide (v=1) || decide (v=-1)))=!pmB values:=by
 unfold pmB
 rw [decide_eq_true h3,Bool.true_and,List.any_eq_not_all_not]
 simp
theorem EG (v:Int):eQ v=some (!(decide (v=1) || decide (v=-1))):=by
 unfold eQ
 by_cases h:v=1
 ·rw [if_pos h,decide_eq_true h];rfl
 ·rw [if_neg h,decide_eq_false h]
  by_cases h2:v=-1
  ·rw [decide_eq_true h2,decide_eq_false (by simpa using h2)];rfl
  ·rw [decide_eq_false h2,decide_eq_true h2];rfl
theorem Fy {values ps:List Int}(hv:pmB values=true)(hp:∀ p,p∈ps→1≤p∧p≤3)(hl:ps.length≤3):iM ps (dM values ps)=some (litL values ps):=by
 unfold iM
 have key:aq (fK (dM values ps) ps ((ps.length:Nat):Int)) (((0:Nat):Int),litL values (ps.take 0))=some (litL values ps):=by
  refine aV ps.length (fun i=>((i:Int),litL values (ps.take i))) ?_ ?_
  ·intro i hi
   have hb:=hp _ (List.getElem_mem hi)
   have ht:=Hq hv (k:=ps[i] - 1) (by omega) (by omega)
   have hl1:(litL values (ps.take i)).length≤3:=by unfold litL;rw [List.length_map,List.length_take];omega
   have hsl:(dM values ps).length=ps.length:=by unfold dM;simp
   unfold fK
   try simp only
   rw [if_pos (by omega),aB hi,aB (show i<(dM values ps).length by omega)]
   simp only [obnd]
   have hs:(dM values ps)[i]'(by omega)=tm values (ps[i] - 1):=by unfold dM;simp
   rw [hs,au (by omega),au (by omega),wr (x:=(i:Int)+1) (by omega) (by omega),wr (x:=ps[i]*tm values (ps[i] - 1)) (by rcases ht with h | h <;> rw [h] <;> omega) (by rcases ht with h | h <;> rw [h] <;> omega)]
   congr 3
   unfold litL
   rw [List.take_succ_eq_append_getElem hi,List.map_append];rfl
  ·unfold fK
   try simp only
   rw [if_neg (by omega),List.take_length]
 simp only [Int.natCast_zero,List.take_zero] at key
 rw [show litL values []=[] from rfl] at key
 rw [key];rfl
theorem Ay {values ps:List Int}(hv:pmB values=true)(hp:∀ p,p∈ps→1≤p∧p≤3):(dM values ps).length=ps.length∧∀ v,v∈dM values ps→v=1∨v=-1:=by
 refine ⟨by unfold dM;simp,fun v hm=>?_⟩
 unfold dM at hm
 rw [List.mem_map] at hm
 obtain ⟨p,hpm,rfl⟩:=hm
 have:=hp p hpm
 exact Hq hv (by omega) (by omega)
theorem xa (d:GDesk)(ties values:List Int)(refused:Int)(d':GDesk)(hf:FitD d)(ht:ties.length≤1048576)(hvl:values.length≤1048576)(c:Option (List Int))(hmem:∀ nd,c=some nd→nd∈decL d.show_ (endX d.show_ d.state ties))
  (hc:cw d ties values=0→∃ r,fJ d.show_ [] (endX d.show_ d.state ties) d'=some r∧r.2.1=c.isSome∧∀ nd,c=some nd→r.1=nd) :
  bl d ties values refused d'=some (mO d ties values refused c):=by
 have hs:=hf.sh.small
 have hlog:=hf.log
 have hg0:=@lg d ties values
 unfold mO
 unfold bl
 rw [yl d hf]
 simp only [obnd]
 rw [rb d hf]
 simp only
 cases hd:cQ d
 ·have e:cw d ties values=1:=by unfold cw;rw [hd];rfl
  rw [e];rfl
 have hx:=rL hd
 have hR:=cU hx
 simp only [if_true]
 by_cases h3:values.length=3
 rotate_left
 ·have e:cw d ties values=1:=by unfold cw pmB;rw [hd,decide_eq_false h3];rfl
  rw [if_neg (by omega),e];rfl
 rw [if_pos (by omega),jX values _ (fun v=>!(decide (v=1) || decide (v=-1))) (by unfold Cnt;omega) (fun v _=>EG v),NR h3]
 simp only
 cases hp:pmB values
 ·have e:cw d ties values=1:=by unfold cw;rw [hd,hp];rfl
  rw [e];rfl
 simp only [Bool.not_true,Bool.false_eq_true,if_false]
 rw [yh hs hR]
 simp only
 cases hb:og d.show_ d.state
 rotate_left
 ·have e:cw d ties values=2:=by unfold cw;rw [hd,hp,hb];rfl
  rw [e];rfl
 simp only [Bool.false_eq_true,if_false]
 rw [vJ hs hR]
 simp only
 cases ho:sM d.show_ d.state
 rotate_left
 ·have e:cw d ties values=2:=by unfold cw;rw [hd,hp,hb,ho];rfl
  rw [e];rfl
 simp only [Bool.false_eq_true,if_false]
 by_cases hh:d.show_.horizon<d.state.now
 ·have e:cw d ties values=2:=by unfold cw;rw [hd,hp,hb,ho,if_pos hh];rfl
  rw [if_pos hh,e];rfl
 rw [if_neg hh,vG hx]
 simp only
 have hel:=wT (x:=d.state) hR.ok
 rw [yL _ _ (by unfold Cnt;omega) (by unfold Cnt;omega)]
 simp only
 by_cases hm:ties∈dL d.show_ d.state
 rotate_left
 ·have e:cw d ties values=3:=by unfold cw;rw [hd,hp,hb,ho,if_neg hh,if_neg hm];rfl
  rw [decide_eq_false hm,e];rfl
 have e:cw d ties values=0:=by unfold cw;rw [hd,hp,hb,ho,if_neg hh,if_pos hm];rfl
 obtain ⟨a1,a2,a3⟩:=tF hR.ok hm
 have hM:=sT hx hm
 have hv3:=(bR hR.val).1
 rw [decide_eq_true hm,if_pos rfl,yM hx (by omega) (by omega) a3]
 simp only
 unfold lA
 simp only
 obtain ⟨r,e1,e2,e3⟩:=hc e
 rw [e1,e]
 simp only [if_true]
 rw [e2]
 cases c with
 | none=>rfl
 | some nd=>
  have hn:=hmem nd rfl
  obtain ⟨n1,n2,n3⟩:=lf hM.right hn
  have hps:∀ p,p∈aF d.show_ nd→1≤p∧p≤3:=fun p hp=>⟨(ck hp).1,(ck hp).2.1⟩
  have hpl:=uu d.show_ nd
  simp only [Option.isSome_some,if_true]
  rw [e3 nd rfl,vI hM n1 n2 n3]
  simp only
  have key:aq (aR ties values nd (((aF d.show_ nd).length:Nat):Int) d.show_.horizon d.state.now d.lazy d.state.now d.state.times d.state.values (decX (endX d.show_ d.state ties) nd).now d.show_.nodes d.show_.ties d.state.times d.state.values d.log (decX (endX d.show_ d.state ties) nd).times (decX (endX d.show_ d.state ties) nd).values (aF d.show_ nd)) (((0:Nat):Int),dM values ((aF d.show_ nd).take 0))=some (dM values (aF d.show_ nd)):=by
   refine aV (aF d.show_ nd).length (fun i=>((i:Int),dM values ((aF d.show_ nd).take i))) ?_ ?_
   ·intro i hi
    have hb:=hps _ (List.getElem_mem hi)
    have hsl:(dM values ((aF d.show_ nd).take i)).length≤3:=by unfold dM;rw [List.length_map,List.length_take];omega
    unfold aR
    try simp only
    rw [if_pos (by omega),aB hi]
    simp only [obnd]
    rw [wr (x:=(aF d.show_ nd)[i] - 1) (by omega) (by omega),gb (by omega) (by omega)]
    simp only
    rw [au (by omega),au (by omega),wr (by omega) (by omega)]
    congr 3
    unfold dM
    rw [List.take_succ_eq_append_getElem hi,List.map_append];rfl
   ·unfold aR
    try simp only
    rw [if_neg (by omega),List.take_length]
  simp only [Int.natCast_zero,List.take_zero] at key
  rw [show dM values []=[] from rfl] at key
  rw [key]
  simp only
  obtain ⟨s1,s2⟩:=Ay hp hps
  have hnow:=hR.now
  have hhor:=hR.right.hor
  have hln:=hM.len
  have h7:=hM.right.nodes
  rw [(uC (decX (endX d.show_ d.state ties) nd) (aF d.show_ nd) (dM values (aF d.show_ nd)) (by show 0≤d.state.now∧d.state.now≤1000;omega) (by show (bQ _ _ _ _).length≤_;rw [dX];omega) hv3 hps s1 (by omega)).1]
  simp only
  rw [fP _ ht,fP _ (by omega),Fy hp hps hpl]
  simp only
  rw [au (by omega),au (by omega)]
  rfl
end Go.Proofs.QA
set_option maxRecDepth 100000
namespace Go.Proofs.QA
open Go
end Go.Proofs.QA
set_option maxRecDepth 100000
namespace Go.Proofs.QA
open Go
noncomputable def Az (d:GDesk)(ties:List Int):Option (List Int):=vL d.lazy (decL d.show_ (endX d.show_ d.state ties)) (cM (win d.show_) d.show_ (endX d.show_ d.state ties))
theorem uv {lazy:Bool}{l:List (List Int)}{p:List Int→Bool}{nd:List Int}(h:vL lazy l p=some nd):nd∈l∧p nd=true:=by
 unfold vL at h
 split at h
 ·exact ⟨by simpa using List.mem_of_find?_eq_some h,List.find?_some h⟩
 ·exact ⟨List.mem_of_find?_eq_some h,List.find?_some h⟩
theorem CH (d:GDesk)(ties values:List Int)(hf:FitD d)(ht:ties.length≤1048576)(hv:values.length≤1048576):iN d ties values=some (mO d ties values 5 (Az d ties)):=by
 have hs:=hf.sh.small
 unfold iN
 rw [xa d ties values 5 d hf ht hv (Az d ties) (fun nd h=>(uv h).1) ?_]
 ·rfl
 ·intro h0
  obtain ⟨g1,_,g3,_⟩:=lg h0
  have hM:=sT (rL g1) g3
  have hl:=vH hM.right (endX d.show_ d.state ties)
  unfold fJ Az
  cases hz:d.lazy
  ·simp only [Bool.false_eq_true,if_false]
   obtain ⟨k',_,e⟩:=Av hs (y:=endX d.show_ d.state ties) (FY hs _ (by have:=hM.now;omega)) hM (BW d.show_)
   unfold lP
   rw [e]
   simp only [obnd]
   refine ⟨_,rfl,?_⟩
   unfold vL
   simp only [Bool.false_eq_true,if_false]
   cases (decL d.show_ (endX d.show_ d.state ties)).find? (cM (win d.show_) d.show_ (endX d.show_ d.state ties)) with
   | none=>exact ⟨rfl,fun nd h=>by cases h⟩
   | some nd=>exact ⟨rfl,fun nd' h=>by cases h;rfl⟩
  ·simp only [if_true]
   obtain ⟨k',_,e⟩:=JE hs hM (BW d.show_)
   rw [e]
   simp only [obnd]
   rw [JF _ _ _ hl]
   simp only
   refine ⟨_,rfl,?_⟩
   cases vL true (decL d.show_ (endX d.show_ d.state ties)) (cM (win d.show_) d.show_ (endX d.show_ d.state ties)) with
   | none=>exact ⟨rfl,fun nd h=>by cases h⟩
   | some nd=>exact ⟨rfl,fun nd' h=>by cases h;rfl⟩
theorem IB (d:GDesk)(ties values:List Int)(refused:Int)(c:Option (List Int))(hf:FitD d)(ht:ties.length≤1048576)(hc:cw d ties values=0→∀ nd,c=some nd→nd∈decL d.show_ (endX d.show_ d.state ties)) :
  FitD (mO d ties values refused c).1∧(mO d ties values refused c).2.1.length≤7:=by
 unfold mO
 by_cases h0:cw d ties values=0
 ·rw [if_pos h0]
  cases c with
  | none=>exact ⟨hf,by simp⟩
  | some nd=>
   obtain ⟨g1,hp,g3,_⟩:=lg h0
   have hx:=rL g1
   have hR:=cU hx
   have hM:=sT hx g3
   have hnd:=hc h0 nd rfl
   obtain ⟨n1,n2,n3⟩:=lf hM.right hnd
   have hlog:(d.log.length:Int)=d.state.now:=by
    unfold cQ at g1
    simp only [Bool.and_eq_true,decide_eq_true_eq] at g1
    exact g1.1.1.2
   have hnow:=hR.now
   have hhor:=hR.right.hor
   have hln:=hM.len
   have h7:=hM.right.nodes
   have hv3:=(bR hR.val).1
   have hpl:=uu d.show_ nd
   refine ⟨⟨hf.sh,⟨?_,?_⟩,?_,?_⟩,n2⟩
   ·show (bQ _ _ _ _).length≤_
    rw [dX];omega
   ·show (setV _ _ _ _).length≤_
    rw [ng]
    show d.state.values.length≤_
    omega
   ·show (d.log++[_]).length≤_
    rw [List.length_append];simp;omega
   ·intro e he
    have he':e∈d.log++[⟨d.state.now,ties,nd,litL values (aF d.show_ nd)⟩]:=he
    rw [List.mem_append,List.mem_singleton] at he'
    rcases he' with he' | rfl
    ·exact hf.entry e he'
    ·exact ⟨ht,by show nd.length≤_;omega,by show (litL _ _).length≤_;unfold litL;rw [List.length_map];omega⟩
 ·rw [if_neg h0]
  exact ⟨hf,by simp⟩
end Go.Proofs.QA
set_option maxRecDepth 100000
namespace Go.Proofs.QA
open Go
end Go.Proofs.QA
set_option maxRecDepth 100000
set_option maxHeartbeats 1000000
namespace Go.Proofs.QA
open Go
noncomputable def aM (c:GChoice)(d:GDesk):GDesk × List Int × Int:=mO d (endL d.show_ d.state c) c.values 5 (Az d (endL d.show_ d.state c))
noncomputable def runF (c:GChoice):Nat→GDesk→GDesk × Int
 | 0,d=>(d,0)
 | n+1,d=>if (aM c d).2.2=0 then runF c n (aM c d).1 else (d,(aM c d).2.2)
noncomputable def runR (d:GDesk)(c:GChoice):GDesk × Int:=if cQ d=true then (if gd d.show_ c=true then runF c 13 d else (d,1)) else (d,1)
def tupD (d:GDesk):Int × Int × Bool × (List GNode) × (List GTie) × (List Int) × (List Int) × (List GEntry):=(d.show_.horizon,d.state.now,d.lazy,d.show_.nodes,d.show_.ties,d.state.times,d.state.values,d.log)
theorem CI {s:GShow}{c:GChoice}(h:gd s c=true):c.values.length=3:=by
 unfold gd at h
 simp only [Bool.and_eq_true,decide_eq_true_eq] at h
 exact h.1.1.2
theorem sN {d:GDesk}{ties values:List Int}{c:Option (List Int)}(h:(mO d ties values 5 c).2.2=0):cw d ties values=0∧∃ nd,c=some nd∧mO d ties values 5 c=(finD d ties values nd,nd,0):=by
 unfold mO at h ⊢
 by_cases h0:cw d ties values=0
 ·rw [if_pos h0] at h ⊢
  cases c with
  | none=>exact absurd h (by simp)
  | some nd=>exact ⟨h0,nd,rfl,rfl⟩
 ·rw [if_neg h0] at h
  exact absurd h h0
theorem IC {d:GDesk}{ties values nd:List Int}(h0:cw d ties values=0)(hn:nd∈decL d.show_ (endX d.show_ d.state ties)):aD d.show_ (finD d ties values nd).state=true:=by
 obtain ⟨g1,hp,g3,_⟩:=lg h0
 have hM:=sT (rL g1) g3
 obtain ⟨_,_,hm⟩:=lf hM.right hn
 obtain ⟨s1,s2⟩:=Ay (values:=values) (ps:=aF d.show_ nd) hp (fun p h=>⟨(ck h).1,(ck h).2.1⟩)
 exact Aq hM hm s1 s2
theorem EH {c:GChoice}{d:GDesk}(hf:FitD d)(h:(aM c d).2.2=0) :
  FitD (aM c d).1∧(aM c d).1.show_=d.show_∧aD d.show_ (aM c d).1.state=true∧(aM c d).1.state.now=d.state.now+1:=by
 unfold aM at h ⊢
 obtain ⟨h0,nd,hc,he⟩:=sN h
 have hl:=Es d.show_ d.state c hf.sh.ties
 have hnd:nd∈decL d.show_ (endX d.show_ d.state (endL d.show_ d.state c)):=(uv hc).1
 have hfit:=(IB d (endL d.show_ d.state c) c.values 5 (Az d (endL d.show_ d.state c)) hf hl (fun _ nd h=>(uv h).1)).1
 rw [he] at hfit ⊢
 exact ⟨hfit,rfl,IC h0 hnd,rfl⟩
theorem KU (c:GChoice)(body:(Int × Int × Bool × (List GNode) × (List GTie) × (List Int) × (List Int) × (List GEntry))→Option (Step (Int × Int × Bool × (List GNode) × (List GTie) × (List Int) × (List Int) × (List GEntry)) (GDesk × Int)))
  (hb:∀ d,FitD d→aD d.show_ d.state=true→gd d.show_ c=true→body (tupD d)=some (if (aM c d).2.2=0 then .next (tupD (aM c d).1) else .done (d,(aM c d).2.2))) :
  ∀ (n:Nat) (d:GDesk),FitD d→aD d.show_ d.state=true→gd d.show_ c=true→12<(n:Int)+d.state.now→aq body (tupD d)=some (runF c n d):=by
 intro n
 induction n with
 | zero=>
  intro d hf hx hc h
  have:=(cU hx).now
  have:=(cU hx).right.hor
  omega
 | succ n ih=>
  intro d hf hx hc h
  rw [aQ,hb d hf hx hc]
  show _=some (if (aM c d).2.2=0 then runF c n (aM c d).1 else (d,(aM c d).2.2))
  by_cases h0:(aM c d).2.2=0
  ·obtain ⟨f1,f2,f3,f4⟩:=EH hf h0
   rw [if_pos h0,if_pos h0]
   exact ih _ f1 (by rw [f2];exact f3) (by rw [f2];exact hc) (by rw [f4];omega)
  ·rw [if_neg h0,if_neg h0]
theorem xb (d:GDesk)(c:GChoice)(hf:FitD d):gO d c=some (runR d c):=by
 unfold gO runR
 rw [yl d hf]
 simp only [obnd]
 rw [rb d hf]
 simp only
 cases hD:cQ d
 ·rw [if_neg (by simp),if_neg (by simp)]
 ·have hx:=rL hD
  rw [if_pos rfl,if_pos rfl,yd d.show_ c hf.sh.small (cU hx).right hf.sh.ties]
  simp only
  cases hC:gd d.show_ c
  ·rw [if_neg (by simp),if_neg (by simp)]
  ·rw [if_pos rfl,if_pos rfl]
   have hn:=(cU hx).now
   have key:=KU c (ja c.lengths c.values) (by
    intro d hf hx hc
    have hl:=Es d.show_ d.state c hf.sh.ties
    have hv:=CI hc
    unfold ja tupD
    simp only
    rw [show (GShow.mk d.show_.nodes d.show_.ties d.show_.horizon)=d.show_ from rfl,show (GState.mk d.state.now d.state.times d.state.values)=d.state from rfl,show (GChoice.mk c.lengths c.values)=c from rfl,show (GDesk.mk d.show_ d.state d.lazy d.log)=d from rfl]
    rw [Bk d.show_ d.state c hf.sh hf.st]
    simp only [obnd]
    rw [CH d _ c.values hf hl (by omega)]
    simp only
    show (if (aM c d).2.2=0 then _ else _)=_
    by_cases h0:(aM c d).2.2=0
    ·rw [if_pos h0,if_pos h0];rfl
    ·rw [if_neg h0,if_neg h0];rfl) 13 d hf hx hC (by omega)
   unfold tupD at key
   rw [key]
theorem EI (c:GChoice):∀ (n:Nat) (d:GDesk),FitD d→FitD (runF c n d).1∧(runF c n d).1.show_=d.show_
 | 0,d,hf=>⟨hf,rfl⟩
 | n+1,d,hf=>by
  show FitD (if (aM c d).2.2=0 then runF c n (aM c d).1 else (d,(aM c d).2.2)).1∧(if (aM c d).2.2=0 then runF c n (aM c d).1 else (d,(aM c d).2.2)).1.show_=d.show_
  by_cases h0:(aM c d).2.2=0
  ·obtain ⟨f1,f2,f3,f4⟩:=EH hf h0
   rw [if_pos h0]
   obtain ⟨g1,g2⟩:=EI c n _ f1
   exact ⟨g1,by rw [g2,f2]⟩
  ·rw [if_neg h0]
   exact ⟨hf,rfl⟩
theorem EJ (d:GDesk)(c:GChoice)(hf:FitD d):FitD (runR d c).1∧(runR d c).1.show_=d.show_:=by
 unfold runR
 split
 ·split
  ·exact EI c 13 d hf
  ·exact ⟨hf,rfl⟩
 ·exact ⟨hf,rfl⟩
end Go.Proofs.QA
set_option maxRecDepth 100000
set_option maxHeartbeats 1000000
namespace Go.Proofs.QA
open Go
theorem JH {s:GShow}(z:Bool)(h:aN s=true):(pO s z).2=true:=by
 unfold pO;rw [if_pos h]
end Go.Proofs.QA
set_option maxRecDepth 100000
set_option maxHeartbeats 1000000
namespace Go.Proofs.QA
open Go
theorem lit1 {p v:Int}(h1:1≤p)(h2:p≤3)(hv:v=1∨v=-1):pr (p*v)=p∧sgn (p*v)=v∧p*v≠0∧-3≤p*v∧p*v≤3:=by
 have:p=1∨p=2∨p=3:=by omega
 rcases this with rfl | rfl | rfl <;> rcases hv with rfl | rfl <;> decide
theorem AA {values ps:List Int}(hv:pmB values=true)(hp:∀ p,p∈ps→1≤p∧p≤3){p:Int}(h:p∈ps):pr (p*tm values (p - 1))=p∧sgn (p*tm values (p - 1))=tm values (p - 1)∧p*tm values (p - 1)≠0∧-3≤p*tm values (p - 1)∧p*tm values (p - 1)≤3:=by
 have h1:=hp p h
 exact lit1 h1.1 h1.2 (Hq hv (by omega) (by omega))
theorem NS {values ps:List Int}(hv:pmB values=true)(hp:∀ p,p∈ps→1≤p∧p≤3):(litL values ps).map pr=ps:=by
 unfold litL
 rw [List.map_map]
 conv=>rhs;rw [← List.map_id ps]
 exact List.map_congr_left (fun p h=>(AA hv hp h).1)
theorem Bw {values ps:List Int}(hv:pmB values=true)(hp:∀ p,p∈ps→1≤p∧p≤3):(litL values ps).map sgn=dM values ps:=by
 unfold litL dM
 rw [List.map_map]
 exact List.map_congr_left (fun p h=>(AA hv hp h).2.1)
theorem ID {values ps:List Int}(hv:pmB values=true)(hp:∀ p,p∈ps→1≤p∧p≤3)(ha:Asc ps):bo (litL values ps)=true:=by
 have hlen:(litL values ps).length=ps.length:=List.length_map _
 have hget:∀ i,i<ps.length→(litL values ps).getD i 0=ps.getD i 0*tm values (ps.getD i 0 - 1):=by
  intro i hi
  unfold litL
  simp [hi]
 have hmem:∀ i,i<ps.length→ps.getD i 0∈ps:=by
  intro i hi
  rw [show ps.getD i 0=ps[i] by simp [hi]]
  exact List.getElem_mem hi
 unfold bo
 refine decide_eq_true ?_
 intro i hi
 rw [hlen] at hi
 unfold labP
 refine decide_eq_true ?_
 rw [hget i hi]
 obtain ⟨a1,a2,a3,a4,a5⟩:=AA hv hp (hmem i hi)
 refine ⟨a3,a4,a5,?_⟩
 intro h0
 rw [hget (i - 1) (by omega),a1,(AA hv hp (hmem (i - 1) (by omega))).1]
 exact EC ha hi h0
theorem ym {s:GShow}(e:GEntry):∀ (log:List GEntry) (x:GState),(ba s x log).2=true→(bV s (ba s x log).1 e).2=true→ba s x (log++[e])=((bV s (ba s x log).1 e).1,true)
 | [],x,_,h=>by
  show (if (bV s x e).2=true then ba s (bV s x e).1 [] else (jC,false))=_
  have h':(bV s x e).2=true:=h
  rw [if_pos h'];rfl
 | f::r,x,h,g=>by
  have hc:∀ l,ba s x (f::l)=if (bV s x f).2=true then ba s (bV s x f).1 l else (jC,false):=fun _=>rfl
  rw [hc] at h g
  rw [List.cons_append,hc,hc]
  by_cases he:(bV s x f).2=true
  ·rw [if_pos he] at h g
   rw [if_pos he,if_pos he]
   exact ym e r _ h g
  ·rw [if_neg he] at h;cases h
theorem JI {d:GDesk}{ties values nd:List Int}(h0:cw d ties values=0)(hn:nd∈decL d.show_ (endX d.show_ d.state ties)):cQ (finD d ties values nd)=true:=by
 obtain ⟨g1,hp,g3,_⟩:=lg h0
 have hps:∀ p,p∈aF d.show_ nd→1≤p∧p≤3:=fun p h=>⟨(ck h).1,(ck h).2.1⟩
 have hst:=IC (values:=values) h0 hn
 have hg:=g1
 unfold cQ at hg
 simp only [Bool.and_eq_true,decide_eq_true_eq] at hg
 obtain ⟨⟨⟨e1,e2⟩,e3⟩,e4⟩:=hg
 have hstep:bV d.show_ d.state ⟨d.state.now,ties,nd,litL values (aF d.show_ nd)⟩=((finD d ties values nd).state,true):=by
  unfold bV
  rw [if_pos ⟨rfl,g3,ID hp hps (wY _ _),hn,NS hp hps⟩]
  simp only
  rw [Bw hp hps]
  rfl
 have hrep:cT d.show_ (d.log++[⟨d.state.now,ties,nd,litL values (aF d.show_ nd)⟩])=((finD d ties values nd).state,true):=by
  unfold cT at e3 e4 ⊢
  by_cases hA:aN d.show_=true
  ·rw [if_pos hA] at e3 e4 ⊢
   rw [ym _ d.log _ e3 (by rw [e4,hstep]),e4,hstep]
  ·rw [if_neg hA] at e3;cases e3
 unfold cQ
 simp only [Bool.and_eq_true,decide_eq_true_eq]
 refine ⟨⟨⟨hst,?_⟩,?_⟩,?_⟩
 ·show (((d.log++[_]).length:Nat):Int)=d.state.now+1
  rw [List.length_append]
  simp only [List.length_cons,List.length_nil]
  omega
 ·show (cT d.show_ (d.log++[_])).2=true
  rw [hrep]
 ·show (cT d.show_ (d.log++[_])).1=_
  rw [hrep]
theorem IE {d:GDesk}{ties values:List Int}{refused:Int}{c:Option (List Int)}(hd:cQ d=true)(hc:∀ nd,c=some nd→nd∈decL d.show_ (endX d.show_ d.state ties)):cQ (mO d ties values refused c).1=true:=by
 unfold mO
 by_cases h0:cw d ties values=0
 ·rw [if_pos h0]
  cases c with
  | none=>exact hd
  | some nd=>exact JI h0 (hc nd rfl)
 ·rw [if_neg h0];exact hd
theorem BZ (c:GChoice):∀ (n:Nat) (d:GDesk),cQ d=true→cQ (runF c n d).1=true
 | 0,d,h=>h
 | n+1,d,h=>by
  show cQ (if (aM c d).2.2=0 then runF c n (aM c d).1 else (d,(aM c d).2.2)).1=true
  split
  ·refine BZ c n _ ?_
   unfold aM
   exact IE h (fun nd hn=>(uv hn).1)
  ·exact h
theorem Ca {d:GDesk}(c:GChoice)(h:cQ d=true):cQ (runR d c).1=true:=by
 unfold runR
 rw [if_pos h]
 split
 ·exact BZ c 13 d h
 ·exact h
theorem JJ {s:GShow}(z:Bool)(h:aN s=true):cQ (pO s z).1=true:=by
 unfold pO
 rw [if_pos h]
 unfold cQ
 simp only [Bool.and_eq_true,decide_eq_true_eq]
 refine ⟨⟨⟨yP h,rfl⟩,?_⟩,?_⟩
 ·unfold cT;rw [if_pos h];rfl
 ·unfold cT;rw [if_pos h];rfl
end Go.Proofs.QA
set_option maxRecDepth 100000
set_option maxHeartbeats 1000000
namespace Go.Proofs.QA
open Go
theorem Cc {ns:List GNode}{ts:List GTie}{z:Int}(hA:eU ⟨ns,[],0⟩=true)(hW:dY ⟨ns,[],0⟩=true)(ht:∀ i (hi:i<ts.length),tieB ⟨ns,ts,z⟩ ts[i]=true∧kq ⟨ns,ts,z⟩ i ts[i]=true)(h14:ts.length≤14)(hz:1≤z∧z≤10):aN ⟨ns,ts,z⟩=true:=by
 unfold aN
 simp only [Bool.and_eq_true,decide_eq_true_eq]
 refine ⟨⟨⟨⟨hA,?_⟩,h14⟩,hz⟩,hW⟩
 intro i hi
 rw [sW hi,Bool.and_eq_true]
 exact ht i hi
def brN:List GNode:=[(GNode.mk (ByteArray.mk #[103,111]) ([]) 0),(GNode.mk (ByteArray.mk #[97]) ([]) 1),(GNode.mk (ByteArray.mk #[98]) ([1]) 0),(GNode.mk (ByteArray.mk #[99]) ([(-1)]) 0)]
def brM:List GNode:=brN++([(GNode.mk (ByteArray.mk #[100]) ([1]) 0)])
theorem Pw:eU ⟨brN,[],0⟩=true:=by decide +kernel
theorem Px:eU ⟨brM,[],0⟩=true:=by decide +kernel
theorem Py:dY ⟨brN,[],0⟩=true:=by decide +kernel
theorem Pz:dY ⟨brM,[],0⟩=true:=by decide +kernel
structure BrT (t:GTie):Prop where
 f0:0≤t.from_
 f1:t.from_<4
 t0:0≤t.to
 t1:t.to<4
 ne:t.from_≠t.to
 lo:-20≤t.low
 hi:t.high≤20
 lh:t.low≤t.high
 fr:t.free=false
theorem BrT.b {t:GTie}(h:BrT t){ns:List GNode}{ts:List GTie}{z:Int}(hn:4≤ns.length):tieB ⟨ns,ts,z⟩ t=true:=by
 have h1:=h.f1
 have h2:=h.t1
 unfold tieB
 rw [decide_eq_true_eq]
 exact ⟨⟨h.f0,by show t.from_<(ns.length:Int);omega⟩,⟨h.t0,by show t.to<(ns.length:Int);omega⟩,h.ne,h.lo,h.hi,h.lh⟩
theorem BrT.f {t:GTie}(h:BrT t){s:GShow}{i:Nat}:kq s i t=true:=by
 unfold kq
 rw [h.fr];rfl
theorem EK {c:GL01Cur}(hc:Cur c):∃ r,gW c=some r∧aN r.1=true∧FitS r.1∧Cur r.2:=by
 unfold gW
 obtain ⟨r1,e,a0,a1,hc⟩:=bb hc 3 (by omega)
 have a1:=a1 (by omega)
 rw [e];simp only [obnd]
 obtain ⟨r2,e,b0,b1,hc⟩:=bb hc 2 (by omega)
 have b1:=b1 (by omega)
 rw [e];simp only
 obtain ⟨r3,e,d0,d1,hc⟩:=bb hc 3 (by omega)
 have d1:=d1 (by omega)
 rw [e];simp only
 rw [wr (x:=4+r1.1) (by omega) (by omega),wr (x:=r2.1+r3.1) (by omega) (by omega)]
 have key:∃ q,aq (eJ (4+r1.1) brN) (2,[(GTie.mk 0 1 r2.1 (r2.1+r3.1) false)],r3.2.b,r3.2.i,r3.2.h)=some q∧(∀ t,t∈q.1→BrT t)∧q.1.length≤3∧Cur ⟨q.2.1,q.2.2.1,q.2.2.2⟩:=by
  refine bL 2 (fun i st=>st.1=2+(i:Int)∧(∀ t,t∈st.2.1→BrT t)∧st.2.1.length≤1+i∧Cur ⟨st.2.2.1,st.2.2.2.1,st.2.2.2.2⟩) _ ?_ ?_ ?_
  ·refine ⟨by simp,?_,by simp,hc⟩
   intro t ht
   rw [List.mem_singleton] at ht
   subst ht
   exact ⟨by simp only;omega,by simp only;omega,by simp only;omega,by simp only;omega,by simp only;omega,by simp only;omega,by simp only;omega,by simp only;omega,rfl⟩
  ·rintro i ⟨k,ts,b,j,d⟩ hi ⟨hk,hp,hl,hcu⟩
   simp only at hk hp hl hcu
   subst hk
   unfold eJ
   simp only
   rw [if_pos (by omega)]
   obtain ⟨r7,e,f0,f1,hcu⟩:=bb hcu 3 (by omega)
   have f1:=f1 (by omega)
   rw [e];simp only [obnd]
   obtain ⟨r8,e,g0,g1,hcu⟩:=bb hcu 2 (by omega)
   have g1:=g1 (by omega)
   rw [e];simp only
   obtain ⟨r9,e,k0,k1,hcu⟩:=bb hcu 3 (by omega)
   have k1:=k1 (by omega)
   rw [e];simp only
   rw [au (by omega),au (by omega),wr (x:=2+(i:Int)+1) (by omega) (by omega),wr (x:=r7.1+1) (by omega) (by omega),wr (x:=r7.1+1+r9.1) (by omega) (by omega)]
   refine .inl ⟨_,rfl,?_,?_,?_,hcu⟩
   ·simp only;omega
   ·intro t ht
    rw [List.mem_append,List.mem_singleton] at ht
    rcases ht with ht | rfl
    ·exact hp t ht
    ·exact ⟨by simp only;omega,by simp only;omega,by simp only;omega,by simp only;omega,by simp only;omega,by simp only;omega,by simp only;omega,by simp only;omega,rfl⟩
   ·simp only [List.length_append,List.length_singleton];omega
  ·rintro ⟨k,ts,b,j,d⟩ ⟨hk,hp,hl,hcu⟩
   simp only at hk hp hl hcu
   subst hk
   unfold eJ
   simp only
   rw [if_neg (by omega)]
   exact ⟨_,rfl,hp,by simp only;omega,hcu⟩
 obtain ⟨q,e,hp,hl,hcu⟩:=key
 unfold brN at e
 rw [e];simp only
 obtain ⟨r11,e,hcu⟩:=vD hcu 2 (by omega)
 rw [e];simp only
 by_cases h1:r11.1=true
 ·rw [if_pos h1]
  obtain ⟨r12,e,g0,g1,hcu⟩:=bb hcu 2 (by omega)
  have g1:=g1 (by omega)
  rw [e];simp only
  rw [au (by decide),au (by decide)]
  obtain ⟨r13,e,k0,k1,hcu⟩:=bb hcu 2 (by omega)
  have k1:=k1 (by omega)
  rw [e];simp only
  rw [au (by omega),au (by omega),wr (x:=1+r12.1) (by omega) (by omega),wr (x:=1+r12.1+r13.1) (by omega) (by omega)]
  refine ⟨_,rfl,?_,?_,hcu⟩
  ·refine Cc (ns:=brM) Px Pz ?_ (by simp only [List.length_append,List.length_singleton];omega) (by omega)
   intro i hi
   rw [List.length_append,List.length_singleton] at hi
   by_cases hi':i<q.1.length
   ·rw [List.getElem_append_left hi']
    have h:=hp _ (List.getElem_mem hi')
    exact ⟨h.b (by decide),h.f⟩
   ·have hie:i=q.1.length:=by omega
    subst hie
    rw [List.getElem_append_right (Nat.le_refl _)]
    simp only [Nat.sub_self,List.getElem_cons_zero]
    constructor
    ·unfold tieB
     rw [decide_eq_true_eq]
     refine ⟨⟨by simp only;omega,(by decide:(2:Int)<((brM.length:Nat):Int))⟩,⟨by simp only;omega,(by decide:(4:Int)<((brM.length:Nat):Int))⟩,by simp only;omega,by simp only;omega,by simp only;omega,by simp only;omega⟩
    ·unfold kq
     simp only [Bool.not_true,Bool.false_or,Bool.and_eq_true,decide_eq_true_eq]
     refine ⟨⟨by omega,by decide⟩,?_⟩
     rw [Bool.not_eq_true',List.any_eq_false]
     intro u hu hx
     rw [List.take_append_of_le_length (Nat.le_refl _),List.take_length] at hu
     rw [(hp u hu).fr] at hx
     simp at hx
  ·refine ⟨(by decide:brM.length≤1048576),by simp only [List.length_append,List.length_singleton];omega,?_⟩
   intro n hn
   have:∀ n,n∈brM→FitN n:=by
    intro n hn
    unfold brM brN at hn
    simp only [List.mem_append,List.mem_cons,List.not_mem_nil,or_false] at hn
    rcases hn with (rfl | rfl | rfl | rfl) | rfl <;> exact ⟨by decide,by decide⟩
   exact this n hn
 ·rw [if_neg h1]
  refine ⟨_,rfl,?_,?_,hcu⟩
  ·refine Cc (ns:=brN) Pw Py ?_ (by omega) (by omega)
   intro i hi
   have h:=hp _ (List.getElem_mem hi)
   exact ⟨h.b (by decide),h.f⟩
  ·refine ⟨(by decide:brN.length≤1048576),by show q.1.length≤_;omega,?_⟩
   intro n hn
   have:∀ n,n∈brN→FitN n:=by
    intro n hn
    unfold brN at hn
    simp only [List.mem_cons,List.not_mem_nil,or_false] at hn
    rcases hn with rfl | rfl | rfl | rfl <;> exact ⟨by decide,by decide⟩
   exact this n hn
theorem Hr {c:GL01Cur}(hc:Cur c):∃ r,jr c=some r∧aN r.1=true∧FitS r.1∧Cur r.2:=by
 unfold jr
 obtain ⟨r1,e,hc⟩:=vD hc 3 (by omega)
 rw [e];simp only [obnd]
 by_cases h1:r1.1=true
 ·rw [if_pos h1]
  obtain ⟨r,e,h1,h2,h3⟩:=EK hc
  rw [e]
  exact ⟨_,rfl,h1,h2,h3⟩
 ·rw [if_neg h1]
  obtain ⟨r,e,h1,h2,h3⟩:=Fu hc
  rw [e]
  exact ⟨_,rfl,h1,h2,h3⟩
theorem Fz (code:List Int)(h:code.length≤1048576):∃ s,iD code=some s∧aN s=true∧FitS s:=by
 unfold iD
 obtain ⟨c,e,hc⟩:=BQ code h
 rw [e];simp only [obnd]
 obtain ⟨r,e,h1,h2,_⟩:=Hr hc
 rw [e]
 exact ⟨_,rfl,h1,h2⟩
end Go.Proofs.QA
set_option maxRecDepth 100000
set_option maxHeartbeats 1000000
namespace Go.Proofs.QA
open Go
end Go.Proofs.QA
set_option maxRecDepth 100000
set_option maxHeartbeats 1000000
namespace Go.Proofs.QA
open Go
theorem uE (a b:List Int)(h:Cnt a.length):dU a b=some (decide (a=b)):=by
 unfold dU
 by_cases hl:((a.length:Nat):Int)=((b.length:Nat):Int)
 ·have hlen:a.length=b.length:=by omega
  rw [if_pos hl]
  have key:aq (dI b a ((a.length:Nat):Int)) ((0:Nat):Int)=some (if ∀ i,i<a.length→decide (a.getD i 0=b.getD i 0)=true then .inl () else .inr false):=by
   refine cj a.length (fun i=>(i:Int)) (fun i=>decide (a.getD i 0=b.getD i 0)) ?_ ?_ ?_
   ·intro i hi hp
    unfold dI
    rw [if_pos (by omega),bk hi,bk (by omega)]
    simp only [obnd]
    rw [if_pos (of_decide_eq_true hp),wr (by omega) (by omega)];rfl
   ·intro i hi hp
    unfold dI
    rw [if_pos (by omega),bk hi,bk (by omega)]
    simp only [obnd]
    rw [if_neg (of_decide_eq_false hp)]
   ·unfold dI
    rw [if_neg (by omega)]
  rw [show (0:Int)=((0:Nat):Int) from rfl,key]
  simp only [obnd]
  have hiff:(∀ i,i<a.length→decide (a.getD i 0=b.getD i 0)=true)↔a=b:=by
   constructor
   ·intro h
    apply List.ext_getElem hlen
    intro i h1 h2
    have:=of_decide_eq_true (h i h1)
    simpa [h1,h2] using this
   ·rintro rfl i _
    exact decide_eq_true rfl
  by_cases hab:a=b
  ·rw [if_pos (hiff.2 hab),decide_eq_true hab]
  ·rw [if_neg (fun h=>hab (hiff.1 h)),decide_eq_false hab]
 ·rw [if_neg hl,decide_eq_false (by rintro rfl;exact hl rfl)]
end Go.Proofs.QA
set_option maxRecDepth 100000
set_option maxHeartbeats 1000000
namespace Go.Proofs.QA
open Go
theorem xy {s:GShow}{k:Int}(h:k∈bz s):∃ i,∃ hi:i<s.ties.length,k=(i:Int)∧s.ties[i].free=true:=by
 obtain ⟨i,hi,hp,rfl⟩:=jW.1 h
 unfold fO at hp
 rw [List.getElem?_eq_getElem hi] at hp
 exact ⟨i,hi,rfl,hp⟩
theorem EL {s:GShow}(h:aN s=true):(bz s).length≤6:=by
 have hR:=dh h
 have hn:=hR.nodes
 have hnd:((bz s).map (fun k=>(ca s k).to)).Nodup:=by
  unfold List.Nodup
  rw [List.pairwise_map]
  refine List.Pairwise.imp_of_mem ?_ (pP _ _)
  intro a b ha hb hab he
  obtain ⟨i,hi,rfl,hf⟩:=xy ha
  obtain ⟨j,hj,rfl,hg⟩:=xy hb
  rw [ie hi,ie hj] at he
  have:=Ew h hi hj hf hg he
  omega
 have:=un (r:=[1,2,3,4,5,6]) hnd (fun y hy=>by
  rw [List.mem_map] at hy
  obtain ⟨k,hk,rfl⟩:=hy
  obtain ⟨i,hi,rfl,hf⟩:=xy hk
  rw [ie hi]
  have hT:=hR.tie _ (List.getElem_mem hi)
  have h0:=(mz h hi hf).t0
  have h1:=hT.t0
  have h2:=hT.t1
  simp only [List.mem_cons,List.not_mem_nil,or_false]
  omega)
 simpa using this
theorem IF {s:GShow}(h:aN s=true){k:Int}(hk:k∈bz s):∃ t,getI s.ties k=some t∧-20≤t.low∧t.low≤t.high∧t.high≤20:=by
 obtain ⟨i,hi,rfl,_⟩:=xy hk
 have hT:=(dh h).tie _ (List.getElem_mem hi)
 exact ⟨_,aB hi,hT.lo,hT.lh,hT.hi⟩
theorem EM {s:GShow}(hf:FitS s)(h:aN s=true):∃ n,db s=some n∧1≤n∧n≤1000000000000:=by
 have h6:=EL h
 have hs:=hf.small
 unfold db
 rw [FH s hs,h]
 simp only [obnd,if_true]
 rw [Ag s hf.ties]
 change ∃ n,(obnd (aq (ch (((bz s).length:Nat):Int) s.nodes s.ties s.horizon (bz s)) (1,0)) _)=_∧_
 have key:∃ q,aq (ch (((bz s).length:Nat):Int) s.nodes s.ties s.horizon (bz s)) (1,0)=some q∧1≤q∧q≤4750104241:=by
  have hp:∀ i:Nat,i≤6→(41:Int)^i≤4750104241:=by
   intro i hi
   have:i=0∨i=1∨i=2∨i=3∨i=4∨i=5∨i=6:=by omega
   rcases this with rfl | rfl | rfl | rfl | rfl | rfl | rfl <;> decide
  refine bL (bz s).length (fun i st=>st.2=(i:Int)∧1≤st.1∧st.1≤41^i) _ ⟨rfl,by decide,by decide⟩ ?_ ?_
  ·rintro i ⟨n,v⟩ hi ⟨hk,h1,h2⟩
   simp only at hk h1 h2
   subst hk
   obtain ⟨t,e,b1,b2,b3⟩:=IF h (List.getElem_mem hi)
   unfold ch
   simp only
   rw [if_pos (by omega),aB hi]
   simp only [obnd]
   rw [e]
   simp only
   have hp1:=hp (i+1) (by omega)
   rw [wr (x:=t.high - t.low) (by omega) (by omega),wr (x:=t.high - t.low+1) (by omega) (by omega)]
   have hm:n*(t.high - t.low+1)≤41^i*41:=Int.mul_le_mul h2 (by omega) (by omega) (by omega)
   have hm0:1*1≤n*(t.high - t.low+1):=Int.mul_le_mul h1 (by omega) (by omega) (by omega)
   rw [Int.pow_succ] at hp1
   rw [wr (x:=n*(t.high - t.low+1)) (by omega) (by omega),wr (x:=(i:Int)+1) (by omega) (by omega)]
   refine .inl ⟨_,rfl,by simp only;omega,by simp only;omega,?_⟩
   simp only
   rw [Int.pow_succ]
   exact hm
  ·rintro ⟨n,v⟩ ⟨hk,h1,h2⟩
   simp only at hk h1 h2
   subst hk
   unfold ch
   simp only
   rw [if_neg (by omega)]
   exact ⟨_,rfl,h1,Int.le_trans h2 (hp _ h6)⟩
 obtain ⟨q,e,q1,q2⟩:=key
 rw [e]
 simp only [obnd]
 have key:∃ r,aq (de s.nodes s.ties s.horizon) (q,1)=some r∧1≤r∧r≤1000000000000:=by
  refine bL 3 (fun i st=>st.2=1+(i:Int)∧1≤st.1∧(i=0→st.1≤4750104241)∧(i=1→st.1≤9500208482)∧(i=2→st.1≤19000416964)∧(i=3→st.1≤38000833928)) _ (by refine ⟨by simp,q1,?_,?_,?_,?_⟩ <;> intro h <;> first | exact q2 | omega) ?_ ?_
  ·rintro i ⟨n,p⟩ hi ⟨hk,h1,h2,h3,h4,h5⟩
   simp only at hk h1 h2 h3 h4 h5
   subst hk
   unfold de
   simp only
   rw [if_pos (by omega),show (GShow.mk s.nodes s.ties s.horizon)=s from rfl,mP s _ hs.nodes]
   simp only [obnd]
   have hb:n≤19000416964:=by
    have:i=0∨i=1∨i=2:=by omega
    rcases this with rfl | rfl | rfl
    ·have:=h2 rfl;omega
    ·have:=h3 rfl;omega
    ·exact h4 rfl
   rw [wr (x:=1+(i:Int)+1) (by omega) (by omega)]
   split
   ·rw [wr (x:=2*n) (by omega) (by omega)]
    refine .inl ⟨_,rfl,by simp only;omega,by simp only;omega,fun h=>by omega,fun h=>?_,fun h=>?_,fun h=>?_⟩
    ·have:=h2 (by omega);simp only;omega
    ·have:=h3 (by omega);simp only;omega
    ·have:=h4 (by omega);simp only;omega
   ·refine .inl ⟨_,rfl,by simp only;omega,h1,fun h=>by omega,fun h=>?_,fun h=>?_,fun h=>?_⟩
    ·have:=h2 (by omega);simp only;omega
    ·have:=h3 (by omega);simp only;omega
    ·have:=h4 (by omega);simp only;omega
  ·rintro ⟨n,p⟩ ⟨hk,h1,h2,h3,h4,h5⟩
   simp only at hk h1 h2 h3 h4 h5
   subst hk
   unfold de
   simp only
   rw [if_neg (by omega)]
   exact ⟨_,rfl,h1,by have:=h5 trivial;omega⟩
 obtain ⟨r,e,r1,r2⟩:=key
 rw [e]
 exact ⟨_,rfl,r1,r2⟩
theorem FA {s:GShow}(hf:FitS s)(h:aN s=true)(n:Int):∃ r,iG s n=some r:=by
 have h6:=EL h
 have hs:=hf.small
 unfold iG
 obtain ⟨k,e,_,_⟩:=EM hf h
 rw [e]
 simp only [obnd]
 rw [li]
 simp only
 split
 ·rw [Ag s hf.ties]
  change ∃ r,(obnd (aq (dE (((bz s).length:Nat):Int) s.nodes s.ties s.horizon (bz s)) (n,0,[])) _)=_
  have key:∃ q,aq (dE (((bz s).length:Nat):Int) s.nodes s.ties s.horizon (bz s)) (n,0,[])=some q∧True:=by
   refine bL (bz s).length (fun i st=>st.2.1=(i:Int)∧st.2.2.length=i) _ ⟨rfl,rfl⟩ ?_ ?_
   ·rintro i ⟨m,v,l⟩ hi ⟨hk,h1⟩
    simp only at hk h1
    subst hk
    obtain ⟨t,e,b1,b2,b3⟩:=IF h (List.getElem_mem hi)
    unfold dE
    simp only
    rw [if_pos (by omega),aB hi]
    simp only [obnd]
    rw [e]
    simp only
    rw [wr (x:=t.high - t.low) (by omega) (by omega),wr (x:=t.high - t.low+1) (by omega) (by omega),au (by omega),au (by omega),au (by omega),wr (x:=(i:Int)+1) (by omega) (by omega)]
    exact .inl ⟨_,rfl,by simp only;omega,by simp only [List.length_append,List.length_singleton];omega⟩
   ·rintro ⟨m,v,l⟩ ⟨hk,h1⟩
    simp only at hk h1
    subst hk
    unfold dE
    simp only
    rw [if_neg (by omega)]
    exact ⟨_,rfl,trivial⟩
  obtain ⟨q,e,_⟩:=key
  rw [e]
  simp only [obnd]
  have key:∃ r,aq (fE s.nodes s.ties s.horizon q.2) (q.1,1,[])=some r∧True:=by
   refine bL 3 (fun i st=>st.2.1=1+(i:Int)∧st.2.2.length=i) _ ⟨by simp,rfl⟩ ?_ ?_
   ·rintro i ⟨m,v,l⟩ hi ⟨hk,h1⟩
    simp only at hk h1
    subst hk
    unfold fE
    simp only
    rw [if_pos (by omega),show (GShow.mk s.nodes s.ties s.horizon)=s from rfl,mP s _ hs.nodes]
    simp only [obnd]
    rw [wr (x:=1+(i:Int)+1) (by omega) (by omega)]
    split
    ·rw [au (by omega),au (by omega)]
     exact .inl ⟨_,rfl,by simp only;omega,by simp only [List.length_append,List.length_singleton];omega⟩
    ·rw [au (by omega),au (by omega)]
     exact .inl ⟨_,rfl,by simp only;omega,by simp only [List.length_append,List.length_singleton];omega⟩
   ·rintro ⟨m,v,l⟩ ⟨hk,h1⟩
    simp only at hk h1
    subst hk
    unfold fE
    simp only
    rw [if_neg (by omega)]
    exact ⟨_,rfl,trivial⟩
  obtain ⟨r,e,_⟩:=key
  rw [e]
  exact ⟨_,rfl⟩
 ·exact ⟨_,rfl⟩
theorem we (code:List Int)(n:Int){s:GShow}(hc:code.length≤1048576)(h0:0≤n)(h1:n≤1000000)(hf:FitS s)(h:aN s=true):∃ c,ej code n s=some c:=by
 unfold ej
 obtain ⟨m,e⟩:=GY code n hc h0 h1
 rw [e]
 simp only [obnd]
 obtain ⟨k,e,k1,_⟩:=EM hf h
 rw [e]
 simp only
 rw [au (by omega)]
 obtain ⟨r,e⟩:=FA hf h (Int.tmod m k)
 rw [e]
 exact ⟨_,rfl⟩
theorem yQ (c:GChoice):∀ (n:Nat) (d:GDesk),∃ L,(runF c n d).1.log=d.log++L
 | 0,d=>⟨[],by show d.log=_;simp⟩
 | n+1,d=>by
  show ∃ L,(if (aM c d).2.2=0 then runF c n (aM c d).1 else (d,(aM c d).2.2)).1.log=d.log++L
  by_cases h0:(aM c d).2.2=0
  ·rw [if_pos h0]
   unfold aM at h0 ⊢
   obtain ⟨_,nd,_,he⟩:=sN h0
   rw [he]
   obtain ⟨L,hL⟩:=yQ c n (finD d (endL d.show_ d.state c) c.values nd)
   exact ⟨_::L,by rw [hL];show (d.log++[_])++L=_;rw [List.append_assoc];rfl⟩
  ·rw [if_neg h0]
   exact ⟨[],by simp⟩
def Ka (e f:GEntry):Prop:=e.ties=f.ties∧e.nodes=f.nodes∧e.values=f.values
def Caus (k:Nat)(A B:List GEntry):Prop:=∀ i (hA:i<A.length) (hB:i<B.length),k≤i→(∀ j (h:j<i),k≤j→Ka (A[j]'(by omega)) (B[j]'(by omega)))→A[i].ties=B[i].ties→A[i].nodes=B[i].nodes
theorem NT (c1 c2:GChoice):∀ (n1 n2:Nat) (d:GDesk),Caus d.log.length (runF c1 n1 d).1.log (runF c2 n2 d).1.log:=by
 intro n1
 induction n1 with
 | zero=>
  intro n2 d i hA hB hk
  exact absurd hA (by show ¬ i<d.log.length;omega)
 | succ n ih=>
  intro n2 d
  cases n2 with
  | zero=>
   intro i hA hB hk
   exact absurd hB (by show ¬ i<d.log.length;omega)
  | succ m=>
   have r1:runF c1 (n+1) d=if (aM c1 d).2.2=0 then runF c1 n (aM c1 d).1 else (d,(aM c1 d).2.2):=rfl
   have r2:runF c2 (m+1) d=if (aM c2 d).2.2=0 then runF c2 m (aM c2 d).1 else (d,(aM c2 d).2.2):=rfl
   by_cases h1:(aM c1 d).2.2=0
   ·by_cases h2:(aM c2 d).2.2=0
    ·rw [if_pos h1] at r1
     rw [if_pos h2] at r2
     rw [r1,r2]
     unfold aM at h1 h2 ⊢
     obtain ⟨g1,nd1,t1,e1⟩:=sN h1
     obtain ⟨g2,nd2,t2,e2⟩:=sN h2
     rw [e1,e2]
     show Caus d.log.length (runF c1 n (finD d (endL d.show_ d.state c1) c1.values nd1)).1.log (runF c2 m (finD d (endL d.show_ d.state c2) c2.values nd2)).1.log
     obtain ⟨L1,hL1⟩:=yQ c1 n (finD d (endL d.show_ d.state c1) c1.values nd1)
     obtain ⟨L2,hL2⟩:=yQ c2 m (finD d (endL d.show_ d.state c2) c2.values nd2)
     have ih':=ih m (finD d (endL d.show_ d.state c1) c1.values nd1)
     generalize hT1:endL d.show_ d.state c1=T1 at *
     generalize hT2:endL d.show_ d.state c2=T2 at *
     have a1:∃ L,(runF c1 n (finD d T1 c1.values nd1)).1.log=d.log++⟨d.state.now,T1,nd1,litL c1.values (aF d.show_ nd1)⟩::L:=⟨L1,by rw [hL1];show (d.log++[_])++L1=_;rw [List.append_assoc];rfl⟩
     have a2:∃ L,(runF c2 m (finD d T2 c2.values nd2)).1.log=d.log++⟨d.state.now,T2,nd2,litL c2.values (aF d.show_ nd2)⟩::L:=⟨L2,by rw [hL2];show (d.log++[_])++L2=_;rw [List.append_assoc];rfl⟩
     have same:T1=T2→nd1=nd2:=by
      rintro rfl
      rw [t1] at t2
      cases t2;rfl
     have get1:∀ (h:d.log.length<(runF c1 n (finD d T1 c1.values nd1)).1.log.length),(runF c1 n (finD d T1 c1.values nd1)).1.log[d.log.length]=⟨d.state.now,T1,nd1,litL c1.values (aF d.show_ nd1)⟩:=by
      obtain ⟨L,hL⟩:=a1
      rw [hL]
      intro h
      simp
     have get2:∀ (h:d.log.length<(runF c2 m (finD d T2 c2.values nd2)).1.log.length),(runF c2 m (finD d T2 c2.values nd2)).1.log[d.log.length]=⟨d.state.now,T2,nd2,litL c2.values (aF d.show_ nd2)⟩:=by
      obtain ⟨L,hL⟩:=a2
      rw [hL]
      intro h
      simp
     intro i hA hB hk hp ht
     by_cases hik:i=d.log.length
     ·subst hik
      rw [get1 hA,get2 hB] at ht ⊢
      exact same ht
     ·have hj:=hp d.log.length (by omega) (Nat.le_refl _)
      rw [get1 (by omega),get2 (by omega)] at hj
      obtain ⟨j1,j2,j3⟩:=hj
      simp only at j1 j2 j3
      subst j1 j2
      have hps:∀ p,p∈aF d.show_ nd1→1≤p∧p≤3:=fun p h=>⟨(ck h).1,(ck h).2.1⟩
      have hse:dM c1.values (aF d.show_ nd1)=dM c2.values (aF d.show_ nd1):=by
       rw [← Bw (lg g1).2.1 hps,← Bw (lg g2).2.1 hps,j3]
      have hfin:finD d T1 c2.values nd1=finD d T1 c1.values nd1:=by
       unfold finD
       rw [hse,j3]
      have hgen:∀ D,D=finD d T1 c1.values nd1→Caus (d.log.length+1) (runF c1 n (finD d T1 c1.values nd1)).1.log (runF c2 m D).1.log:=by
       rintro D rfl
       have:(finD d T1 c1.values nd1).log.length=d.log.length+1:=by show (d.log++[_]).length=_;rw [List.length_append];rfl
       rw [this] at ih'
       exact ih'
      exact hgen _ hfin i hA hB (by omega) (fun j h hkj=>hp j h (by omega)) ht
    ·rw [if_neg h2] at r2
     intro i hA hB hk
     rw [r2] at hB
     exact absurd hB (by show ¬ i<d.log.length;omega)
   ·rw [if_neg h1] at r1
    intro i hA hB hk
    rw [r1] at hA
    exact absurd hA (by show ¬ i<d.log.length;omega)
theorem IG (d:GDesk)(c:GChoice):∃ n,(runR d c).1=(runF c n d).1:=by
 unfold runR
 split
 ·split
  ·exact ⟨13,rfl⟩
  ·exact ⟨0,rfl⟩
 ·exact ⟨0,rfl⟩
theorem Hs (code:List Int):kF code=some true:=by
 unfold kF
 by_cases hc:1048576<((code.length:Nat):Int)
 ·rw [if_pos hc]
 rw [if_neg hc]
 obtain ⟨s,e,hs,hf⟩:=Fz code (by omega)
 rw [e];simp only [obnd]
 rw [Em s false hf];simp only
 have hd:=JJ false hs
 have fd:=Im s false hf
 have hlog:=In s false
 rw [JH false hs]
 generalize (pO s false).1=D at hd fd hlog
 obtain ⟨c1,e⟩:=we code 40 (by omega) (by omega) (by omega) hf hs
 rw [e];simp only
 obtain ⟨c2,e⟩:=we code 44 (by omega) (by omega) (by omega) hf hs
 rw [e];simp only
 rw [xb D c1 fd,xb D c2 fd];simp only
 have f1:=(EJ D c1 fd).1
 have f2:=(EJ D c2 fd).1
 have d1:=Ca c1 hd
 have d2:=Ca c2 hd
 have hcau:Caus 0 (runR D c1).1.log (runR D c2).1.log:=by
  obtain ⟨n1,h1⟩:=IG D c1
  obtain ⟨n2,h2⟩:=IG D c2
  have:=NT c1 c2 n1 n2 D
  rw [hlog] at this
  rw [h1,h2]
  exact this
 generalize (runR D c1).1=A at f1 d1 hcau
 generalize (runR D c2).1=B at f2 d2 hcau
 have key:∃ q,aq (fL true true A.show_.horizon A.state.now A.lazy B.show_.horizon B.state.now B.lazy A.show_.nodes A.show_.ties A.state.times A.state.values A.log B.show_.nodes B.show_.ties B.state.times B.state.values B.log) 0=some q∧(q=.inl ()∨q=.inr true):=by
  have hAl:=f1.log
  have hBl:=f2.log
  refine bL A.log.length (fun i st=>st=(i:Int)∧i≤B.log.length∧(∀ j (hA:j<A.log.length) (hB:j<B.log.length),j<i→Ka A.log[j] B.log[j])) _ ⟨rfl,Nat.zero_le _,fun j _ _ h=>by omega⟩ ?_ ?_
  ·rintro i st hi ⟨rfl,hiB,hp⟩
   unfold fL
   rw [if_pos (by omega)]
   by_cases hB:i<B.log.length
   ·have g1:=f1.entry _ (List.getElem_mem hi)
    have b1:=g1.ties
    have b2:=g1.nodes
    have b3:=g1.values
    rw [if_pos (by omega),aB hi,aB hB]
    simp only [obnd]
    rw [uE _ _ (by unfold Cnt;omega)]
    simp only
    by_cases ht:A.log[i].ties=B.log[i].ties
    ·rw [decide_eq_true ht,if_pos rfl]
     have hn:=hcau i hi hB (Nat.zero_le _) (fun j h _=>hp j (by omega) (by omega) h) ht
     rw [uE _ _ (by unfold Cnt;omega),decide_eq_true hn]
     simp only [if_true]
     rw [uE _ _ (by unfold Cnt;omega)]
     simp only
     by_cases hv:A.log[i].values=B.log[i].values
     ·rw [decide_eq_true hv,if_pos rfl,wr (by omega) (by omega)]
      refine .inl ⟨_,rfl,by omega,by omega,?_⟩
      intro j hA' hB' hj
      by_cases hji:j=i
      ·subst hji
       exact ⟨ht,hn,hv⟩
      ·exact hp j hA' hB' (by omega)
     ·rw [decide_eq_false hv,if_neg (by simp)]
      exact .inr ⟨_,rfl,.inr rfl⟩
    ·rw [decide_eq_false ht,if_neg (by simp)]
     exact .inr ⟨_,rfl,.inr rfl⟩
   ·rw [if_neg (by omega)]
    exact .inr ⟨_,rfl,.inl rfl⟩
  ·rintro st ⟨rfl,hiB,hp⟩
   unfold fL
   rw [if_neg (by omega)]
   exact ⟨_,rfl,.inl rfl⟩
 obtain ⟨q,e,hq⟩:=key
 rw [e]
 rcases hq with rfl | rfl
 ·simp only [if_true]
  rw [rb A f1,d1]
  simp only [if_true]
  rw [rb B f2,d2]
 ·rfl
end Go.Proofs.QA
