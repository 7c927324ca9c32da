/- The reference's game reckons winning too. Own work. -/
import Derived.Test.YtpkcmjnlnbddbaaGreatDoorXdP33
import Derived.Test.YtpkcmjnlnbddbaaGreatDoorXdP24
import Derived.Lib.AtoiAllCases
import Derived.Lib.IndexBytes
set_option linter.all false
set_option maxRecDepth 100000
namespace Go.Proofs.Qd
open Go
end Go.Proofs.Qd
set_option maxRecDepth 100000
namespace Go.Proofs.Qd
open Go
theorem BL {α:Type}{l:List α}{n:Nat}{x:α}(h:n<l.length):(l.set n x).take (n+1)=l.take n++[x]:=by
 have e:(l.set n x).take n=l.take n:=by
  apply List.ext_getElem?
  intro i
  rw [List.getElem?_take,List.getElem?_take]
  split
  ·rw [List.getElem?_set_ne (by omega)]
  ·rfl
 rw [cm (by simp;exact h),e]
 simp
theorem IH {α:Type}{xs ys:List α}{i:Nat}(h:i+ys.length≤xs.length):(putL xs i ys).take i=xs.take i:=by
 unfold putL
 rw [if_pos h,List.append_assoc,List.take_append_of_le_length (by rw [List.length_take];omega),List.take_take]
 simp
theorem II {α β ρ:Type}(xs:List α)(q:α→Bool)(I:β→Prop)(body:Int × β→Option (Step (Int × β) ρ))(rT:β→ρ)(rF:Int→β→ρ)
  (h1:∀ i (hi:i<xs.length) k,I k→∃ k',I k'∧body ((i:Int),k)=some (if q xs[i]=true then .done (rF (i:Int) k') else .next ((i:Int)+1,k')))
  (h2:∀ k,I k→body ((xs.length:Int),k)=some (.done (rT k))) (k:β) (hk:I k) :
  ∃ k',I k'∧ak body (0,k)=some (if 0≤aK xs q then rF (aK xs q) k' else rT k'):=by
 have key:=cp (body:=body) (s0:=((0:Int),k)) xs.length (fun i st=>st.1=(i:Int)∧I st.2∧∀ j (hj:j<xs.length),j<i→q xs[j]=false)
  (fun r=>∃ k',I k'∧r=(if 0≤aK xs q then rF (aK xs q) k' else rT k')) ⟨rfl,hk,fun j _ h=>absurd h (by omega)⟩ ?_ ?_
 ·obtain ⟨r,hr,hp⟩:=key
  obtain ⟨k',h3,rfl⟩:=hp
  exact ⟨k',h3,hr⟩
 ·rintro i ⟨a,k⟩ hi ⟨rfl,hI,hall⟩
  obtain ⟨k',hk',hb⟩:=h1 i hi k hI
  cases hq:q xs[i]
  ·rw [hq,if_neg (by simp)] at hb
   refine .inl ⟨_,hb,rfl,hk',fun j hj hlt=>?_⟩
   rcases Nat.lt_or_ge j i with h | h
   ·exact hall j hj h
   ·obtain rfl:j=i:=by omega
    exact hq
  ·rw [hq,if_pos rfl] at hb
   refine .inr ⟨_,hb,k',hk',?_⟩
   have:aK xs q=(i:Int):=by
    unfold aK
    have:xs.findIdx? q=some i:=by
     rw [List.findIdx?_eq_some_iff_getElem]
     exact ⟨hi,hq,fun j hj=>by simp [hall j (by omega) hj]⟩
    rw [this]
   rw [this,if_pos (by omega)]
 ·rintro ⟨a,k⟩ ⟨rfl,hI,hall⟩
  refine ⟨_,h2 k hI,k,hI,?_⟩
  rw [if_neg]
  intro h0
  obtain ⟨j,hj,_,hq,_⟩:=gp h0
  rw [hall j hj hj] at hq
  cases hq
theorem uV {α:Type}{xs:List α}{q:α→Bool}(h:¬ 0≤aK xs q):aK xs q=-1∧xs.any q=false:=by
 constructor
 ·unfold aK at h ⊢
  cases hf:xs.findIdx? q with
  | none=>rfl
  | some j=>rw [hf] at h;simp at h
 ·rw [← hZ];exact decide_eq_false h
section
variable {s:GShow} {y:GState}
theorem Mq (hs:bw s)(h:MomR s y){nodes:List Int}(hn:nodes∈decL s y){known:List (ByteArray × Bool)}(hk:bX s known) :
  ∃ known',bX s known'∧dO nodes s known y=some (!cZ (win s) s y nodes,known'):=by
 obtain ⟨k',hk',e⟩:=xT (BK hs _ (by have:=h.now;omega)) h hn hk
 refine ⟨k',hk',?_⟩
 unfold dO lu
 rw [e];rfl
theorem BM (hs:bw s)(h:MomR s y)(xs:List (List Int))(hx:∀ nd,nd∈xs→nd∈decL s y)(hl:xs.length≤128){known:List (ByteArray × Bool)}(hk:bX s known) :
  ∃ known',bX s known'∧bb xs s known y=some (aK xs (fun nd=>!cZ (win s) s y nd),xs,known'):=by
 unfold bb
 have key:=II xs (fun nd=>!cZ (win s) s y nd) (bX s) (aW ((xs.length:Nat):Int) xs s.nodes s.ties s.horizon y.now y.times y.values)
  (fun k=>.inl k) (fun i k=>.inr (i,xs,k)) ?_ ?_ known hk
 ·obtain ⟨k',hk',e⟩:=key
  rw [e]
  refine ⟨k',hk',?_⟩
  simp only [obnd]
  by_cases h0:0≤aK xs (fun nd=>!cZ (win s) s y nd)
  ·rw [if_pos h0]
  ·rw [if_neg h0,(uV h0).1]
 ·intro i hi k hk
  obtain ⟨k',hk',e⟩:=Mq hs h (hx _ (List.getElem_mem hi)) hk
  refine ⟨k',hk',?_⟩
  unfold aW
  try simp only
  rw [if_pos (by omega),aw hi]
  simp only [obnd]
  rw [show (GShow.mk s.nodes s.ties s.horizon)=s from rfl,show (GState.mk y.now y.times y.values)=y from rfl,e]
  simp only
  rw [wr (by omega) (by omega)]
  cases cZ (win s) s y xs[i] <;> rfl
 ·intro k _
  unfold aW
  try simp only
  rw [if_neg (by omega)]
theorem As (hs:bw s)(h:MomR s y)(xs:List (List Int))(hx:∀ nd,nd∈xs→nd∈decL s y)(hl:xs.length≤128){known:List (ByteArray × Bool)}(hk:bX s known) :
  ∃ known',bX s known'∧ba xs s known y=some (xs.filter (fun nd=>cZ (win s) s y nd),known'):=by
 obtain ⟨k1,hk1,e1⟩:=BM hs h xs hx hl hk
 have hfn:xs.filter (fun nd=>cZ (win s) s y nd)=xs.filter (fun nd=>!(!cZ (win s) s y nd)):=by simp
 rw [hfn]
 unfold ba
 rw [e1]
 simp only [obnd]
 generalize hq':(fun nd=>!cZ (win s) s y nd)=q at *
 have hq:∀ nd,q nd=!cZ (win s) s y nd:=fun nd=>by rw [← hq']
 have hff:(fun nd=>!(!cZ (win s) s y nd))=(fun x=>!q x):=by funext nd;rw [hq]
 rw [hff]
 by_cases h0:0≤aK xs q
 ·obtain ⟨i0,hi0,he,hq0,hno⟩:=gp h0
  rw [he,if_neg (by omega),wr (x:=(i0:Int)+1) (by omega) (by omega)]
  have htake:(xs.take i0).filter (fun x=>!q x)=xs.take i0:=by
   rw [List.filter_eq_self]
   intro x hm
   obtain ⟨j,hj,rfl⟩:=List.getElem_of_mem hm
   rw [List.length_take] at hj
   rw [List.getElem_take,hno j (by omega)];rfl
  have inv:∃ r,ak (aV xs.length s.nodes s.ties s.horizon y.now y.times y.values) ((i0:Int),(i0:Int)+1,xs,k1)=some r∧(r.1=(((xs.filter (fun x=>!q x)).length:Nat):Int)∧r.2.1.length=xs.length∧r.2.1.take (xs.filter (fun x=>!q x)).length=xs.filter (fun x=>!q x)∧bX s r.2.2):=by
   refine cp (xs.length - (i0+1)) (fun (k:Nat) (s':Int × Int × List (List Int) × List (ByteArray × Bool))=>s'.2.1=((i0+1+k:Nat):Int)∧s'.1=((((xs.take (i0+1+k)).filter (fun x=>!q x)).length:Nat):Int)∧s'.2.2.1.length=xs.length ∧
    s'.2.2.1.take ((xs.take (i0+1+k)).filter (fun x=>!q x)).length=(xs.take (i0+1+k)).filter (fun x=>!q x)∧(∀ j,i0+1+k≤j→s'.2.2.1[j]?=xs[j]?)∧((xs.take (i0+1+k)).filter (fun x=>!q x)).length<i0+1+k∧bX s s'.2.2.2) _ ?_ ?_ ?_
   ·have e1:(xs.take (i0+1)).filter (fun x=>!q x)=xs.take i0:=by
     rw [cm hi0,List.filter_append,htake]
     simp [hq0]
    have hl:(xs.take i0).length=i0:=by rw [List.length_take];omega
    refine ⟨by simp only;omega,?_,rfl,?_,fun _ _=>rfl,?_,hk1⟩
    ·simp only [Nat.add_zero];rw [e1,hl]
    ·simp only [Nat.add_zero];rw [e1,hl]
    ·simp only [Nat.add_zero];rw [e1,hl];omega
   ·rintro k ⟨v5,v6,v0,kn⟩ hk ⟨h1,h2,h3,h4,h5,h6,h7⟩
    simp only at h1 h2 h3 h4 h5 h6 h7
    have hj:i0+1+k<xs.length:=by omega
    have hg:getI v0 v6=some xs[i0+1+k]:=by
     unfold getI
     rw [h1,if_pos (by omega),Int.toNat_natCast,h5 _ (Nat.le_refl _),List.getElem?_eq_getElem hj]
    obtain ⟨kn',hkn',ec⟩:=Mq hs h (hx _ (List.getElem_mem hj)) h7
    left
    unfold aV
    simp only
    rw [if_pos (by omega),ai (by omega),hg,wr (x:=v6+1) (by omega) (by omega)]
    simp only [obnd]
    rw [show (GShow.mk s.nodes s.ties s.horizon)=s from rfl,show (GState.mk y.now y.times y.values)=y from rfl,ec,← hq]
    simp only
    cases hqq:q xs[i0+1+k]
    ·have e2:(xs.take (i0+1+(k+1))).filter (fun x=>!q x)=(xs.take (i0+1+k)).filter (fun x=>!q x)++[xs[i0+1+k]]:=by
      rw [show i0+1+(k+1)=i0+1+k+1 by omega,cm hj,List.filter_append]
      simp [hqq]
     have hv5:getI v0 v5=some v0[((xs.take (i0+1+k)).filter (fun x=>!q x)).length]:=by rw [h2,aw (by omega)]
     rw [if_neg (by simp),ai (by omega),hv5,wr (x:=v5+1) (by omega) (by omega)]
     refine ⟨_,rfl,by simp only;omega,?_,?_,?_,?_,?_,hkn'⟩
     ·simp only;rw [e2,List.length_append,h2];simp
     ·simp only [List.length_set];exact h3
     ·simp only;rw [e2,List.length_append,h2,Int.toNat_natCast]
      simp only [List.length_cons,List.length_nil,Nat.zero_add]
      rw [BL (by omega),h4]
     ·intro j hj'
      simp only
      rw [h2,Int.toNat_natCast,List.getElem?_set_ne (by omega)]
      exact h5 j (by omega)
     ·rw [e2,List.length_append];simp;omega
    ·have e2:(xs.take (i0+1+(k+1))).filter (fun x=>!q x)=(xs.take (i0+1+k)).filter (fun x=>!q x):=by
      rw [show i0+1+(k+1)=i0+1+k+1 by omega,cm hj,List.filter_append]
      simp [hqq]
     rw [if_pos rfl]
     refine ⟨_,rfl,by simp only;omega,?_,h3,?_,fun j hj'=>h5 j (by omega),?_,hkn'⟩
     ·simp only;rw [e2];exact h2
     ·simp only;rw [e2];exact h4
     ·rw [e2];omega
   ·rintro ⟨v5,v6,v0,kn⟩ ⟨h1,h2,h3,h4,h5,h6,h7⟩
    simp only at h1 h2 h3 h4 h7
    have hall:i0+1+(xs.length - (i0+1))=xs.length:=by omega
    rw [hall] at h1 h2 h4
    rw [List.take_length] at h2 h4
    unfold aV
    simp only
    rw [if_neg (by omega)]
    exact ⟨_,rfl,h2,h3,h4,h7⟩
  obtain ⟨⟨v5,v0,kn⟩,hr,h1,h2,h3,h4⟩:=inv
  rw [hr]
  simp only at h1 h2 h3 h4 ⊢
  have hle:=List.length_filter_le (fun x=>!q x) xs
  subst h1
  simp only [Int.toNat_natCast]
  rw [ai (by omega),ai (by omega),ai (by omega),ai (by omega),ai (by rw [xI];omega),ai (by omega),IH (by rw [List.length_replicate];omega),h3]
  exact ⟨kn,h4,rfl⟩
 ·obtain ⟨h2,h1⟩:=uV h0
  rw [if_pos h2,ai (Nat.le_refl _),List.take_length]
  refine ⟨k1,hk1,?_⟩
  congr 2
  symm
  rw [List.filter_eq_self]
  intro x hm
  rw [List.any_eq_false] at h1
  have:=h1 x hm
  cases hqx:q x
  ·rfl
  ·exact absurd hqx this
theorem LE (hs:bw s)(h:MomR s y){known:List (ByteArray × Bool)}(hk:bX s known) :
  ∃ known',bX s known'∧iC s known y=some ((decL s y).filter (cZ (win s) s y),known'):=by
 obtain ⟨k',hk',e⟩:=As hs h (decL s y) (fun _ h=>h) (tn h.right y) hk
 refine ⟨k',hk',?_⟩
 unfold iC
 rw [qI hs h]
 simp only [obnd]
 rw [e]
end
def tw (lazy:Bool)(l:List (List Int))(p:List Int→Bool):Option (List Int):=if lazy=true then l.reverse.find? p else l.find? p
theorem LF (l:List (List Int))(p:List Int→Bool)(lazy:Bool)(hl:l.length≤128) :
  lv (l.filter p) lazy=some (match tw lazy l p with | some nd=>(nd,true) | none=>([],false)):=by
 have hle:=List.length_filter_le p l
 unfold lv tw
 have e1:l.find? p=(l.filter p).head?:=(List.head?_filter).symm
 have e2:l.reverse.find? p=(l.filter p).getLast?:=by rw [← List.head?_filter,List.filter_reverse,List.head?_reverse]
 rw [e1,e2]
 generalize l.filter p=m at *
 by_cases h0:m=[]
 ·subst h0
  rw [if_pos (by simp)]
  cases lazy <;> rfl
 ·have hpos:0<m.length:=List.length_pos_iff.2 h0
  rw [if_neg (by omega)]
  cases lazy
  ·simp only [Bool.false_eq_true,if_false]
   have:getI m ((0:Nat):Int)=some m[0]:=aw hpos
   rw [show ((0:Nat):Int)=0 from rfl] at this
   rw [this,List.head?_eq_getElem?,List.getElem?_eq_getElem hpos];rfl
  ·simp only [if_true]
   rw [wr (by omega) (by omega),show ((m.length:Nat):Int) - 1=((m.length - 1:Nat):Int) by omega,aw (by omega),List.getLast?_eq_getElem?,List.getElem?_eq_getElem (by omega)];rfl
end Go.Proofs.Qd
set_option maxRecDepth 100000
namespace Go.Proofs.Qd
open Go
theorem IJ (log:List am)(hl:log.length≤1048576)(he:∀ e,e∈log→FitE e):jP log=some log:=by
 unfold jP
 have key:ak (gQ log ((log.length:Nat):Int)) (((0:Nat):Int),log.take 0)=some log:=by
  refine aQ log.length (fun i=>((i:Int),log.take i)) ?_ ?_
  ·intro i hi
   have hf:=he _ (List.getElem_mem hi)
   unfold gQ
   try simp only
   rw [if_pos (by omega),aw hi]
   simp only [obnd]
   rw [gG _ hf.ties,gG _ hf.nodes,gG _ hf.values]
   simp only
   rw [ai (by rw [List.length_take];omega),ai (by rw [List.length_take];omega),wr (by omega) (by omega),List.take_succ_eq_append_getElem hi];rfl
  ·unfold gQ
   try simp only
   rw [if_neg (by omega),List.take_length]
 simp only [Int.natCast_zero,List.take_zero] at key
 rw [key];rfl
theorem xU (d:GDesk)(h:FitD d):gK d=some d:=by
 unfold gK
 rw [rH _ h.sh]
 simp only [obnd]
 rw [og _ h.st.times h.st.values]
 simp only
 rw [IJ _ h.log h.entry]
def pmB (values:List Int):Bool:=decide (values.length=3)&&values.all (fun v=>decide (v=1) || decide (v=-1))
noncomputable def da (d:GDesk)(ties values:List Int):Int:=
 if di d=true then (if pmB values=true then (if ip d.show_ d.state=true then 2 else if mC d.show_ d.state=true then 2 else if d.show_.horizon<d.state.now then 2 else if ties∈bZ d.show_ d.state then 0 else 3) else 1) else 1
def db (values ps:List Int):List Int:=ps.map (fun p=>tm values (p - 1))
def litL (values ps:List Int):List Int:=ps.map (fun p=>p*tm values (p - 1))
noncomputable def finD (d:GDesk)(ties values nodes:List Int):GDesk:=
 ⟨d.show_,obsX (decX (endX d.show_ d.state ties) nodes) (aF d.show_ nodes) (db values (aF d.show_ nodes)),d.lazy,d.log++[⟨d.state.now,ties,nodes,litL values (aF d.show_ nodes)⟩]⟩
noncomputable def mD (d:GDesk)(ties values:List Int)(refused:Int)(c:Option (List Int)):GDesk × List Int × Int:=
 if da d ties values=0 then (match c with | some nd=>(finD d ties values nd,nd,0) | none=>(d,[],refused)) else (d,[],da d ties values)
theorem ly {d:GDesk}(h:di d=true):aD d.show_ d.state=true:=by
 unfold di at h
 simp only [Bool.and_eq_true] at h
 exact h.1.1.1
theorem ng {d:GDesk}{ties values:List Int}(h:da d ties values=0):di d=true∧pmB values=true∧ties∈bZ d.show_ d.state∧ip d.show_ d.state=false∧mC d.show_ d.state=false∧¬ d.show_.horizon<d.state.now:=by
 unfold da at h
 split at h
 ·rename_i h1
  split at h
  ·rename_i h2
   split at h
   ·omega
   ·rename_i h3
    split at h
    ·omega
    ·rename_i h4
     split at h
     ·omega
     ·rename_i h5
      split at h
      ·rename_i h6
       exact ⟨h1,h2,h6,by simpa using h3,by simpa using h4,h5⟩
      ·omega
  ·omega
 ·omega
theorem LG {values:List Int}(h:pmB values=true):values.length=3∧∀ v,v∈values→v=1∨v=-1:=by
 unfold pmB at h
 rw [Bool.and_eq_true,decide_eq_true_eq,List.all_eq_true] at h
 exact ⟨h.1,fun v hv=>by have:=h.2 v hv;simpa using this⟩
theorem IK {values:List Int}(h:pmB values=true){k:Int}(h0:0≤k)(h1:k<3):tm values k=1∨tm values k=-1:=by
 obtain ⟨h2,h3⟩:=LG h
 unfold tm
 rw [List.getElem?_eq_getElem (show k.toNat<values.length by omega)]
 exact h3 _ (List.getElem_mem _)
theorem Rz {values:List Int}(h3:values.length=3):values.any (fun v=>!(decide (v=1) || decide (v=-1)))=!pmB values:=by
 unfold pmB
 rw [decide_eq_true h3,Bool.true_and,List.any_eq_not_all_not]
 simp
theorem Fw (v:Int):fI v=some (!(decide (v=1) || decide (v=-1))):=by
 unfold fI
 by_cases h:v=1
 ·rw [if_pos h,decide_eq_true h];rfl
 ·rw [if_neg h,decide_eq_false h]
  by_cases h2:v=-1
  ·rw [decide_eq_true h2,decide_eq_false (by simpa using h2)];rfl
  ·rw [decide_eq_false h2,decide_eq_true h2];rfl
theorem GF {values ps:List Int}(hv:pmB values=true)(hp:∀ p,p∈ps→1≤p∧p≤3)(hl:ps.length≤3):jh ps (db values ps)=some (litL values ps):=by
 unfold jh
 have key:ak (gC (db values ps) ps ((ps.length:Nat):Int)) (((0:Nat):Int),litL values (ps.take 0))=some (litL values ps):=by
  refine aQ ps.length (fun i=>((i:Int),litL values (ps.take i))) ?_ ?_
  ·intro i hi
   have hb:=hp _ (List.getElem_mem hi)
   have ht:=IK hv (k:=ps[i] - 1) (by omega) (by omega)
   have hl1:(litL values (ps.take i)).length≤3:=by unfold litL;rw [List.length_map,List.length_take];omega
   have hsl:(db values ps).length=ps.length:=by unfold db;simp
   unfold gC
   try simp only
   rw [if_pos (by omega),aw hi,aw (show i<(db values ps).length by omega)]
   simp only [obnd]
   have hs:(db values ps)[i]'(by omega)=tm values (ps[i] - 1):=by unfold db;simp
   rw [hs,ai (by omega),ai (by omega),wr (x:=(i:Int)+1) (by omega) (by omega),wr (x:=ps[i]*tm values (ps[i] - 1)) (by rcases ht with h | h <;> rw [h] <;> omega) (by rcases ht with h | h <;> rw [h] <;> omega)]
   congr 3
   unfold litL
   rw [List.take_succ_eq_append_getElem hi,List.map_append];rfl
  ·unfold gC
   try simp only
   rw [if_neg (by omega),List.take_length]
 simp only [Int.natCast_zero,List.take_zero] at key
 rw [show litL values []=[] from rfl] at key
 rw [key];rfl
theorem Au {values ps:List Int}(hv:pmB values=true)(hp:∀ p,p∈ps→1≤p∧p≤3):(db values ps).length=ps.length∧∀ v,v∈db values ps→v=1∨v=-1:=by
 refine ⟨by unfold db;simp,fun v hm=>?_⟩
 unfold db at hm
 rw [List.mem_map] at hm
 obtain ⟨p,hpm,rfl⟩:=hm
 have:=hp p hpm
 exact IK hv (by omega) (by omega)
theorem uW (d:GDesk)(ties values:List Int)(refused:Int)(d':GDesk)(hf:FitD d)(ht:ties.length≤1048576)(hvl:values.length≤1048576)(c:Option (List Int))(hmem:∀ nd,c=some nd→nd∈decL d.show_ (endX d.show_ d.state ties))
  (hc:da d ties values=0→∃ r,gB d.show_ [] (endX d.show_ d.state ties) d'=some r∧r.2.1=c.isSome∧∀ nd,c=some nd→r.1=nd) :
  bB d ties values refused d'=some (mD d ties values refused c):=by
 have hs:=hf.sh.small
 have hlog:=hf.log
 have hg0:=@ng d ties values
 unfold mD
 unfold bB
 rw [xU d hf]
 simp only [obnd]
 rw [xP d hf]
 simp only
 cases hd:di d
 ·have e:da d ties values=1:=by unfold da;rw [hd];rfl
  rw [e];rfl
 have hx:=ly hd
 have hR:=ca hx
 simp only [if_true]
 by_cases h3:values.length=3
 rotate_left
 ·have e:da d ties values=1:=by unfold da pmB;rw [hd,decide_eq_false h3];rfl
  rw [if_neg (by omega),e];rfl
 rw [if_pos (by omega),kw values _ (fun v=>!(decide (v=1) || decide (v=-1))) (by unfold Cnt;omega) (fun v _=>Fw v),Rz h3]
 simp only
 cases hp:pmB values
 ·have e:da d ties values=1:=by unfold da;rw [hd,hp];rfl
  rw [e];rfl
 simp only [Bool.not_true,Bool.false_eq_true,if_false]
 rw [xQ hs hR]
 simp only
 cases hb:ip d.show_ d.state
 rotate_left
 ·have e:da d ties values=2:=by unfold da;rw [hd,hp,hb];rfl
  rw [e];rfl
 simp only [Bool.false_eq_true,if_false]
 rw [tq hs hR]
 simp only
 cases ho:mC d.show_ d.state
 rotate_left
 ·have e:da d ties values=2:=by unfold da;rw [hd,hp,hb,ho];rfl
  rw [e];rfl
 simp only [Bool.false_eq_true,if_false]
 by_cases hh:d.show_.horizon<d.state.now
 ·have e:da d ties values=2:=by unfold da;rw [hd,hp,hb,ho,if_pos hh];rfl
  rw [if_pos hh,e];rfl
 rw [if_neg hh,tj hx]
 simp only
 have hel:=uP (x:=d.state) hR.ok
 rw [yd _ _ (by unfold Cnt;omega) (by unfold Cnt;omega)]
 simp only
 by_cases hm:ties∈bZ d.show_ d.state
 rotate_left
 ·have e:da d ties values=3:=by unfold da;rw [hd,hp,hb,ho,if_neg hh,if_neg hm];rfl
  rw [decide_eq_false hm,e];rfl
 have e:da d ties values=0:=by unfold da;rw [hd,hp,hb,ho,if_neg hh,if_pos hm];rfl
 obtain ⟨a1,a2,a3⟩:=jq hR.ok hm
 have hM:=kc hx hm
 have hv3:=(bE hR.val).1
 rw [decide_eq_true hm,if_pos rfl,ye hx (by omega) (by omega) a3]
 simp only
 unfold im
 simp only
 obtain ⟨r,e1,e2,e3⟩:=hc e
 rw [e1,e]
 simp only [if_true]
 rw [e2]
 cases c with
 | none=>rfl
 | some nd=>
  have hn:=hmem nd rfl
  obtain ⟨n1,n2,n3⟩:=fA hM.right hn
  have hps:∀ p,p∈aF d.show_ nd→1≤p∧p≤3:=fun p hp=>⟨(bO hp).1,(bO hp).2.1⟩
  have hpl:=rl d.show_ nd
  simp only [Option.isSome_some,if_true]
  rw [e3 nd rfl,tp hM n1 n2 n3]
  simp only
  have key:ak (aZ ties values nd (((aF d.show_ nd).length:Nat):Int) d.show_.horizon d.state.now d.lazy d.state.now d.state.times d.state.values (decX (endX d.show_ d.state ties) nd).now d.show_.nodes d.show_.ties d.state.times d.state.values d.log (decX (endX d.show_ d.state ties) nd).times (decX (endX d.show_ d.state ties) nd).values (aF d.show_ nd)) (((0:Nat):Int),db values ((aF d.show_ nd).take 0))=some (db values (aF d.show_ nd)):=by
   refine aQ (aF d.show_ nd).length (fun i=>((i:Int),db values ((aF d.show_ nd).take i))) ?_ ?_
   ·intro i hi
    have hb:=hps _ (List.getElem_mem hi)
    have hsl:(db values ((aF d.show_ nd).take i)).length≤3:=by unfold db;rw [List.length_map,List.length_take];omega
    unfold aZ
    try simp only
    rw [if_pos (by omega),aw hi]
    simp only [obnd]
    rw [wr (x:=(aF d.show_ nd)[i] - 1) (by omega) (by omega),fq (by omega) (by omega)]
    simp only
    rw [ai (by omega),ai (by omega),wr (by omega) (by omega)]
    congr 3
    unfold db
    rw [List.take_succ_eq_append_getElem hi,List.map_append];rfl
   ·unfold aZ
    try simp only
    rw [if_neg (by omega),List.take_length]
  simp only [Int.natCast_zero,List.take_zero] at key
  rw [show db values []=[] from rfl] at key
  rw [key]
  simp only
  obtain ⟨s1,s2⟩:=Au hp hps
  have hnow:=hR.now
  have hhor:=hR.right.hor
  have hln:=hM.len
  have h7:=hM.right.nodes
  rw [(rI (decX (endX d.show_ d.state ties) nd) (aF d.show_ nd) (db values (aF d.show_ nd)) (by show 0≤d.state.now∧d.state.now≤1000;omega) (by show (bQ _ _ _ _).length≤_;rw [fb];omega) hv3 hps s1 (by omega)).1]
  simp only
  rw [gG _ ht,gG _ (by omega),GF hp hps hpl]
  simp only
  rw [ai (by omega),ai (by omega)]
  rfl
end Go.Proofs.Qd
set_option maxRecDepth 100000
namespace Go.Proofs.Qd
open Go
end Go.Proofs.Qd
set_option maxRecDepth 100000
namespace Go.Proofs.Qd
open Go
noncomputable def wo (d:GDesk)(ties:List Int):Option (List Int):=tw d.lazy (decL d.show_ (endX d.show_ d.state ties)) (cZ (win d.show_) d.show_ (endX d.show_ d.state ties))
theorem pw {lazy:Bool}{l:List (List Int)}{p:List Int→Bool}{nd:List Int}(h:tw lazy l p=some nd):nd∈l∧p nd=true:=by
 unfold tw at h
 split at h
 ·exact ⟨by simpa using List.mem_of_find?_eq_some h,List.find?_some h⟩
 ·exact ⟨List.mem_of_find?_eq_some h,List.find?_some h⟩
theorem Dj (d:GDesk)(ties values:List Int)(hf:FitD d)(ht:ties.length≤1048576)(hv:values.length≤1048576):ji d ties values=some (mD d ties values 5 (wo d ties)):=by
 have hs:=hf.sh.small
 unfold ji
 rw [uW d ties values 5 d hf ht hv (wo d ties) (fun nd h=>(pw h).1) ?_]
 ·rfl
 ·intro h0
  obtain ⟨g1,_,g3,_⟩:=ng h0
  have hM:=kc (ly g1) g3
  have hl:=tn hM.right (endX d.show_ d.state ties)
  unfold gB wo
  cases hz:d.lazy
  ·simp only [Bool.false_eq_true,if_false]
   obtain ⟨k',_,e⟩:=Aq hs (y:=endX d.show_ d.state ties) (BK hs _ (by have:=hM.now;omega)) hM (uU d.show_)
   unfold lV
   rw [e]
   simp only [obnd]
   refine ⟨_,rfl,?_⟩
   unfold tw
   simp only [Bool.false_eq_true,if_false]
   cases (decL d.show_ (endX d.show_ d.state ties)).find? (cZ (win d.show_) d.show_ (endX d.show_ d.state ties)) with
   | none=>exact ⟨rfl,fun nd h=>by cases h⟩
   | some nd=>exact ⟨rfl,fun nd' h=>by cases h;rfl⟩
  ·simp only [if_true]
   obtain ⟨k',_,e⟩:=LE hs hM (uU d.show_)
   rw [e]
   simp only [obnd]
   rw [LF _ _ _ hl]
   simp only
   refine ⟨_,rfl,?_⟩
   cases tw true (decL d.show_ (endX d.show_ d.state ties)) (cZ (win d.show_) d.show_ (endX d.show_ d.state ties)) with
   | none=>exact ⟨rfl,fun nd h=>by cases h⟩
   | some nd=>exact ⟨rfl,fun nd' h=>by cases h;rfl⟩
theorem Ki (d:GDesk)(ties values:List Int)(refused:Int)(c:Option (List Int))(hf:FitD d)(ht:ties.length≤1048576)(hc:da d ties values=0→∀ nd,c=some nd→nd∈decL d.show_ (endX d.show_ d.state ties)) :
  FitD (mD d ties values refused c).1∧(mD d ties values refused c).2.1.length≤7:=by
 unfold mD
 by_cases h0:da d ties values=0
 ·rw [if_pos h0]
  cases c with
  | none=>exact ⟨hf,by simp⟩
  | some nd=>
   obtain ⟨g1,hp,g3,_⟩:=ng h0
   have hx:=ly g1
   have hR:=ca hx
   have hM:=kc hx g3
   have hnd:=hc h0 nd rfl
   obtain ⟨n1,n2,n3⟩:=fA hM.right hnd
   have hlog:(d.log.length:Int)=d.state.now:=by
    unfold di at g1
    simp only [Bool.and_eq_true,decide_eq_true_eq] at g1
    exact g1.1.1.2
   have hnow:=hR.now
   have hhor:=hR.right.hor
   have hln:=hM.len
   have h7:=hM.right.nodes
   have hv3:=(bE hR.val).1
   have hpl:=rl d.show_ nd
   refine ⟨⟨hf.sh,⟨?_,?_⟩,?_,?_⟩,n2⟩
   ·show (bQ _ _ _ _).length≤_
    rw [fb];omega
   ·show (setV _ _ _ _).length≤_
    rw [lx]
    show d.state.values.length≤_
    omega
   ·show (d.log++[_]).length≤_
    rw [List.length_append];simp;omega
   ·intro e he
    have he':e∈d.log++[⟨d.state.now,ties,nd,litL values (aF d.show_ nd)⟩]:=he
    rw [List.mem_append,List.mem_singleton] at he'
    rcases he' with he' | rfl
    ·exact hf.entry e he'
    ·exact ⟨ht,by show nd.length≤_;omega,by show (litL _ _).length≤_;unfold litL;rw [List.length_map];omega⟩
 ·rw [if_neg h0]
  exact ⟨hf,by simp⟩
end Go.Proofs.Qd
set_option maxRecDepth 100000
namespace Go.Proofs.Qd
open Go
end Go.Proofs.Qd
set_option maxRecDepth 100000
set_option maxHeartbeats 1000000
namespace Go.Proofs.Qd
open Go
noncomputable def bv (c:GChoice)(d:GDesk):GDesk × List Int × Int:=mD d (endL d.show_ d.state c) c.values 5 (wo d (endL d.show_ d.state c))
noncomputable def runF (c:GChoice):Nat→GDesk→GDesk × Int
 | 0,d=>(d,0)
 | n+1,d=>if (bv c d).2.2=0 then runF c n (bv c d).1 else (d,(bv c d).2.2)
noncomputable def runR (d:GDesk)(c:GChoice):GDesk × Int:=if di d=true then (if bR d.show_ c=true then runF c 13 d else (d,1)) else (d,1)
def tupD (d:GDesk):Int × Int × Bool × (List GNode) × (List GTie) × (List Int) × (List Int) × (List am):=(d.show_.horizon,d.state.now,d.lazy,d.show_.nodes,d.show_.ties,d.state.times,d.state.values,d.log)
theorem Dk {s:GShow}{c:GChoice}(h:bR s c=true):c.values.length=3:=by
 unfold bR at h
 simp only [Bool.and_eq_true,decide_eq_true_eq] at h
 exact h.1.1.2
theorem Av {d:GDesk}{ties values:List Int}{c:Option (List Int)}(h:(mD d ties values 5 c).2.2=0):da d ties values=0∧∃ nd,c=some nd∧mD d ties values 5 c=(finD d ties values nd,nd,0):=by
 unfold mD at h ⊢
 by_cases h0:da d ties values=0
 ·rw [if_pos h0] at h ⊢
  cases c with
  | none=>exact absurd h (by simp)
  | some nd=>exact ⟨h0,nd,rfl,rfl⟩
 ·rw [if_neg h0] at h
  exact absurd h h0
theorem Kj {d:GDesk}{ties values nd:List Int}(h0:da d ties values=0)(hn:nd∈decL d.show_ (endX d.show_ d.state ties)):aD d.show_ (finD d ties values nd).state=true:=by
 obtain ⟨g1,hp,g3,_⟩:=ng h0
 have hM:=kc (ly g1) g3
 obtain ⟨_,_,hm⟩:=fA hM.right hn
 obtain ⟨s1,s2⟩:=Au (values:=values) (ps:=aF d.show_ nd) hp (fun p h=>⟨(bO h).1,(bO h).2.1⟩)
 exact uS hM hm s1 s2
theorem Fx {c:GChoice}{d:GDesk}(hf:FitD d)(h:(bv c d).2.2=0) :
  FitD (bv c d).1∧(bv c d).1.show_=d.show_∧aD d.show_ (bv c d).1.state=true∧(bv c d).1.state.now=d.state.now+1:=by
 unfold bv at h ⊢
 obtain ⟨h0,nd,hc,he⟩:=Av h
 have hl:=Fi d.show_ d.state c hf.sh.ties
 have hnd:nd∈decL d.show_ (endX d.show_ d.state (endL d.show_ d.state c)):=(pw hc).1
 have hfit:=(Ki d (endL d.show_ d.state c) c.values 5 (wo d (endL d.show_ d.state c)) hf hl (fun _ nd h=>(pw h).1)).1
 rw [he] at hfit ⊢
 exact ⟨hfit,rfl,Kj h0 hnd,rfl⟩
theorem Nx (c:GChoice)(body:(Int × Int × Bool × (List GNode) × (List GTie) × (List Int) × (List Int) × (List am))→Option (Step (Int × Int × Bool × (List GNode) × (List GTie) × (List Int) × (List Int) × (List am)) (GDesk × Int)))
  (hb:∀ d,FitD d→aD d.show_ d.state=true→bR d.show_ c=true→body (tupD d)=some (if (bv c d).2.2=0 then .next (tupD (bv c d).1) else .done (d,(bv c d).2.2))) :
  ∀ (n:Nat) (d:GDesk),FitD d→aD d.show_ d.state=true→bR d.show_ c=true→12<(n:Int)+d.state.now→ak body (tupD d)=some (runF c n d):=by
 intro n
 induction n with
 | zero=>
  intro d hf hx hc h
  have:=(ca hx).now
  have:=(ca hx).right.hor
  omega
 | succ n ih=>
  intro d hf hx hc h
  rw [aX,hb d hf hx hc]
  show _=some (if (bv c d).2.2=0 then runF c n (bv c d).1 else (d,(bv c d).2.2))
  by_cases h0:(bv c d).2.2=0
  ·obtain ⟨f1,f2,f3,f4⟩:=Fx hf h0
   rw [if_pos h0,if_pos h0]
   exact ih _ f1 (by rw [f2];exact f3) (by rw [f2];exact hc) (by rw [f4];omega)
  ·rw [if_neg h0,if_neg h0]
theorem Fy (d:GDesk)(c:GChoice)(hf:FitD d):jU d c=some (runR d c):=by
 unfold jU runR
 rw [xU d hf]
 simp only [obnd]
 rw [xP d hf]
 simp only
 cases hD:di d
 ·rw [if_neg (by simp),if_neg (by simp)]
 ·have hx:=ly hD
  rw [if_pos rfl,if_pos rfl,xM d.show_ c hf.sh.small (ca hx).right hf.sh.ties]
  simp only
  cases hC:bR d.show_ c
  ·rw [if_neg (by simp),if_neg (by simp)]
  ·rw [if_pos rfl,if_pos rfl]
   have hn:=(ca hx).now
   have key:=Nx c (jC c.lengths c.values) (by
    intro d hf hx hc
    have hl:=Fi d.show_ d.state c hf.sh.ties
    have hv:=Dk hc
    unfold jC tupD
    simp only
    rw [show (GShow.mk d.show_.nodes d.show_.ties d.show_.horizon)=d.show_ from rfl,show (GState.mk d.state.now d.state.times d.state.values)=d.state from rfl,show (GChoice.mk c.lengths c.values)=c from rfl,show (GDesk.mk d.show_ d.state d.lazy d.log)=d from rfl]
    rw [BD d.show_ d.state c hf.sh hf.st]
    simp only [obnd]
    rw [Dj d _ c.values hf hl (by omega)]
    simp only
    show (if (bv c d).2.2=0 then _ else _)=_
    by_cases h0:(bv c d).2.2=0
    ·rw [if_pos h0,if_pos h0];rfl
    ·rw [if_neg h0,if_neg h0];rfl) 13 d hf hx hC (by omega)
   unfold tupD at key
   rw [key]
theorem Fz (c:GChoice):∀ (n:Nat) (d:GDesk),FitD d→FitD (runF c n d).1∧(runF c n d).1.show_=d.show_
 | 0,d,hf=>⟨hf,rfl⟩
 | n+1,d,hf=>by
  show FitD (if (bv c d).2.2=0 then runF c n (bv c d).1 else (d,(bv c d).2.2)).1∧(if (bv c d).2.2=0 then runF c n (bv c d).1 else (d,(bv c d).2.2)).1.show_=d.show_
  by_cases h0:(bv c d).2.2=0
  ·obtain ⟨f1,f2,f3,f4⟩:=Fx hf h0
   rw [if_pos h0]
   obtain ⟨g1,g2⟩:=Fz c n _ f1
   exact ⟨g1,by rw [g2,f2]⟩
  ·rw [if_neg h0]
   exact ⟨hf,rfl⟩
theorem LH (d:GDesk)(c:GChoice)(hf:FitD d):FitD (runR d c).1∧(runR d c).1.show_=d.show_:=by
 unfold runR
 split
 ·split
  ·exact Fz c 13 d hf
  ·exact ⟨hf,rfl⟩
 ·exact ⟨hf,rfl⟩
end Go.Proofs.Qd
set_option maxRecDepth 100000
set_option maxHeartbeats 1000000
namespace Go.Proofs.Qd
open Go
theorem LI {s:GShow}(z:Bool)(h:aC s=true):(ku s z).2=true:=by
 unfold ku;rw [if_pos h]
end Go.Proofs.Qd
set_option maxRecDepth 100000
set_option maxHeartbeats 1000000
namespace Go.Proofs.Qd
open Go
theorem lit1 {p v:Int}(h1:1≤p)(h2:p≤3)(hv:v=1∨v=-1):pr (p*v)=p∧sgn (p*v)=v∧p*v≠0∧-3≤p*v∧p*v≤3:=by
 have:p=1∨p=2∨p=3:=by omega
 rcases this with rfl | rfl | rfl <;> rcases hv with rfl | rfl <;> decide
theorem Aw {values ps:List Int}(hv:pmB values=true)(hp:∀ p,p∈ps→1≤p∧p≤3){p:Int}(h:p∈ps):pr (p*tm values (p - 1))=p∧sgn (p*tm values (p - 1))=tm values (p - 1)∧p*tm values (p - 1)≠0∧-3≤p*tm values (p - 1)∧p*tm values (p - 1)≤3:=by
 have h1:=hp p h
 exact lit1 h1.1 h1.2 (IK hv (by omega) (by omega))
theorem RA {values ps:List Int}(hv:pmB values=true)(hp:∀ p,p∈ps→1≤p∧p≤3):(litL values ps).map pr=ps:=by
 unfold litL
 rw [List.map_map]
 conv=>rhs;rw [← List.map_id ps]
 exact List.map_congr_left (fun p h=>(Aw hv hp h).1)
theorem Ny {values ps:List Int}(hv:pmB values=true)(hp:∀ p,p∈ps→1≤p∧p≤3):(litL values ps).map sgn=db values ps:=by
 unfold litL db
 rw [List.map_map]
 exact List.map_congr_left (fun p h=>(Aw hv hp h).2.1)
theorem Kk {values ps:List Int}(hv:pmB values=true)(hp:∀ p,p∈ps→1≤p∧p≤3)(ha:Asc ps):bG (litL values ps)=true:=by
 have hlen:(litL values ps).length=ps.length:=List.length_map _
 have hget:∀ i,i<ps.length→(litL values ps).getD i 0=ps.getD i 0*tm values (ps.getD i 0 - 1):=by
  intro i hi
  unfold litL
  simp [hi]
 have hmem:∀ i,i<ps.length→ps.getD i 0∈ps:=by
  intro i hi
  rw [show ps.getD i 0=ps[i] by simp [hi]]
  exact List.getElem_mem hi
 unfold bG
 refine decide_eq_true ?_
 intro i hi
 rw [hlen] at hi
 unfold labP
 refine decide_eq_true ?_
 rw [hget i hi]
 obtain ⟨a1,a2,a3,a4,a5⟩:=Aw hv hp (hmem i hi)
 refine ⟨a3,a4,a5,?_⟩
 intro h0
 rw [hget (i - 1) (by omega),a1,(Aw hv hp (hmem (i - 1) (by omega))).1]
 exact Fs ha hi h0
theorem xV {s:GShow}(e:am):∀ (log:List am) (x:GState),(bg s x log).2=true→(cu s (bg s x log).1 e).2=true→bg s x (log++[e])=((cu s (bg s x log).1 e).1,true)
 | [],x,_,h=>by
  show (if (cu s x e).2=true then bg s (cu s x e).1 [] else (kb,false))=_
  have h':(cu s x e).2=true:=h
  rw [if_pos h'];rfl
 | f::r,x,h,g=>by
  have hc:∀ l,bg s x (f::l)=if (cu s x f).2=true then bg s (cu s x f).1 l else (kb,false):=fun _=>rfl
  rw [hc] at h g
  rw [List.cons_append,hc,hc]
  by_cases he:(cu s x f).2=true
  ·rw [if_pos he] at h g
   rw [if_pos he,if_pos he]
   exact xV e r _ h g
  ·rw [if_neg he] at h;cases h
theorem FA {d:GDesk}{ties values nd:List Int}(h0:da d ties values=0)(hn:nd∈decL d.show_ (endX d.show_ d.state ties)):di (finD d ties values nd)=true:=by
 obtain ⟨g1,hp,g3,_⟩:=ng h0
 have hps:∀ p,p∈aF d.show_ nd→1≤p∧p≤3:=fun p h=>⟨(bO h).1,(bO h).2.1⟩
 have hst:=Kj (values:=values) h0 hn
 have hg:=g1
 unfold di at hg
 simp only [Bool.and_eq_true,decide_eq_true_eq] at hg
 obtain ⟨⟨⟨e1,e2⟩,e3⟩,e4⟩:=hg
 have hstep:cu d.show_ d.state ⟨d.state.now,ties,nd,litL values (aF d.show_ nd)⟩=((finD d ties values nd).state,true):=by
  unfold cu
  rw [if_pos ⟨rfl,g3,Kk hp hps (uR _ _),hn,RA hp hps⟩]
  simp only
  rw [Ny hp hps]
  rfl
 have hrep:dH d.show_ (d.log++[⟨d.state.now,ties,nd,litL values (aF d.show_ nd)⟩])=((finD d ties values nd).state,true):=by
  unfold dH at e3 e4 ⊢
  by_cases hA:aC d.show_=true
  ·rw [if_pos hA] at e3 e4 ⊢
   rw [xV _ d.log _ e3 (by rw [e4,hstep]),e4,hstep]
  ·rw [if_neg hA] at e3;cases e3
 unfold di
 simp only [Bool.and_eq_true,decide_eq_true_eq]
 refine ⟨⟨⟨hst,?_⟩,?_⟩,?_⟩
 ·show (((d.log++[_]).length:Nat):Int)=d.state.now+1
  rw [List.length_append]
  simp only [List.length_cons,List.length_nil]
  omega
 ·show (dH d.show_ (d.log++[_])).2=true
  rw [hrep]
 ·show (dH d.show_ (d.log++[_])).1=_
  rw [hrep]
theorem Kl {d:GDesk}{ties values:List Int}{refused:Int}{c:Option (List Int)}(hd:di d=true)(hc:∀ nd,c=some nd→nd∈decL d.show_ (endX d.show_ d.state ties)):di (mD d ties values refused c).1=true:=by
 unfold mD
 by_cases h0:da d ties values=0
 ·rw [if_pos h0]
  cases c with
  | none=>exact hd
  | some nd=>exact FA h0 (hc nd rfl)
 ·rw [if_neg h0];exact hd
theorem CQ (c:GChoice):∀ (n:Nat) (d:GDesk),di d=true→di (runF c n d).1=true
 | 0,d,h=>h
 | n+1,d,h=>by
  show di (if (bv c d).2.2=0 then runF c n (bv c d).1 else (d,(bv c d).2.2)).1=true
  split
  ·refine CQ c n _ ?_
   unfold bv
   exact Kl h (fun nd hn=>(pw hn).1)
  ·exact h
theorem Km {d:GDesk}(c:GChoice)(h:di d=true):di (runR d c).1=true:=by
 unfold runR
 rw [if_pos h]
 split
 ·exact CQ c 13 d h
 ·exact h
theorem LJ {s:GShow}(z:Bool)(h:aC s=true):di (ku s z).1=true:=by
 unfold ku
 rw [if_pos h]
 unfold di
 simp only [Bool.and_eq_true,decide_eq_true_eq]
 refine ⟨⟨⟨oM h,rfl⟩,?_⟩,?_⟩
 ·unfold dH;rw [if_pos h];rfl
 ·unfold dH;rw [if_pos h];rfl
end Go.Proofs.Qd
set_option maxRecDepth 100000
set_option maxHeartbeats 1000000
namespace Go.Proofs.Qd
open Go
theorem CR {ns:List GNode}{ts:List GTie}{z:Int}(hA:eJ ⟨ns,[],0⟩=true)(hW:fc ⟨ns,[],0⟩=true)(ht:∀ i (hi:i<ts.length),tieB ⟨ns,ts,z⟩ ts[i]=true∧iR ⟨ns,ts,z⟩ i ts[i]=true)(h14:ts.length≤14)(hz:1≤z∧z≤10):aC ⟨ns,ts,z⟩=true:=by
 unfold aC
 simp only [Bool.and_eq_true,decide_eq_true_eq]
 refine ⟨⟨⟨⟨hA,?_⟩,h14⟩,hz⟩,hW⟩
 intro i hi
 rw [lN hi,Bool.and_eq_true]
 exact ht i hi
def brN:List GNode:=[(GNode.mk (ByteArray.mk #[103,111]) ([]) 0),(GNode.mk (ByteArray.mk #[97]) ([]) 1),(GNode.mk (ByteArray.mk #[98]) ([1]) 0),(GNode.mk (ByteArray.mk #[99]) ([(-1)]) 0)]
def brM:List GNode:=brN++([(GNode.mk (ByteArray.mk #[100]) ([1]) 0)])
theorem Tt:eJ ⟨brN,[],0⟩=true:=by decide +kernel
theorem Tu:eJ ⟨brM,[],0⟩=true:=by decide +kernel
theorem Tv:fc ⟨brN,[],0⟩=true:=by decide +kernel
theorem Tw:fc ⟨brM,[],0⟩=true:=by decide +kernel
structure BrT (t:GTie):Prop where
 f0:0≤t.from_
 f1:t.from_<4
 t0:0≤t.to
 t1:t.to<4
 ne:t.from_≠t.to
 lo:-20≤t.low
 hi:t.high≤20
 lh:t.low≤t.high
 fr:t.free=false
theorem BrT.b {t:GTie}(h:BrT t){ns:List GNode}{ts:List GTie}{z:Int}(hn:4≤ns.length):tieB ⟨ns,ts,z⟩ t=true:=by
 have h1:=h.f1
 have h2:=h.t1
 unfold tieB
 rw [decide_eq_true_eq]
 exact ⟨⟨h.f0,by show t.from_<(ns.length:Int);omega⟩,⟨h.t0,by show t.to<(ns.length:Int);omega⟩,h.ne,h.lo,h.hi,h.lh⟩
theorem BrT.f {t:GTie}(h:BrT t){s:GShow}{i:Nat}:iR s i t=true:=by
 unfold iR
 rw [h.fr];rfl
theorem FB {c:GL01Cur}(hc:Cur c):∃ r,iE c=some r∧aC r.1=true∧FitS r.1∧Cur r.2:=by
 unfold iE
 obtain ⟨r1,e,a0,a1,hc⟩:=bi hc 3 (by omega)
 have a1:=a1 (by omega)
 rw [e];simp only [obnd]
 obtain ⟨r2,e,b0,b1,hc⟩:=bi hc 2 (by omega)
 have b1:=b1 (by omega)
 rw [e];simp only
 obtain ⟨r3,e,d0,d1,hc⟩:=bi hc 3 (by omega)
 have d1:=d1 (by omega)
 rw [e];simp only
 rw [wr (x:=4+r1.1) (by omega) (by omega),wr (x:=r2.1+r3.1) (by omega) (by omega)]
 have key:∃ q,ak (fK (4+r1.1) brN) (2,[(GTie.mk 0 1 r2.1 (r2.1+r3.1) false)],r3.2.b,r3.2.i,r3.2.h)=some q∧(∀ t,t∈q.1→BrT t)∧q.1.length≤3∧Cur ⟨q.2.1,q.2.2.1,q.2.2.2⟩:=by
  refine cp 2 (fun i st=>st.1=2+(i:Int)∧(∀ t,t∈st.2.1→BrT t)∧st.2.1.length≤1+i∧Cur ⟨st.2.2.1,st.2.2.2.1,st.2.2.2.2⟩) _ ?_ ?_ ?_
  ·refine ⟨by simp,?_,by simp,hc⟩
   intro t ht
   rw [List.mem_singleton] at ht
   subst ht
   exact ⟨by simp only;omega,by simp only;omega,by simp only;omega,by simp only;omega,by simp only;omega,by simp only;omega,by simp only;omega,by simp only;omega,rfl⟩
  ·rintro i ⟨k,ts,b,j,d⟩ hi ⟨hk,hp,hl,hcu⟩
   simp only at hk hp hl hcu
   subst hk
   unfold fK
   simp only
   rw [if_pos (by omega)]
   obtain ⟨r7,e,f0,f1,hcu⟩:=bi hcu 3 (by omega)
   have f1:=f1 (by omega)
   rw [e];simp only [obnd]
   obtain ⟨r8,e,g0,g1,hcu⟩:=bi hcu 2 (by omega)
   have g1:=g1 (by omega)
   rw [e];simp only
   obtain ⟨r9,e,k0,k1,hcu⟩:=bi hcu 3 (by omega)
   have k1:=k1 (by omega)
   rw [e];simp only
   rw [ai (by omega),ai (by omega),wr (x:=2+(i:Int)+1) (by omega) (by omega),wr (x:=r7.1+1) (by omega) (by omega),wr (x:=r7.1+1+r9.1) (by omega) (by omega)]
   refine .inl ⟨_,rfl,?_,?_,?_,hcu⟩
   ·simp only;omega
   ·intro t ht
    rw [List.mem_append,List.mem_singleton] at ht
    rcases ht with ht | rfl
    ·exact hp t ht
    ·exact ⟨by simp only;omega,by simp only;omega,by simp only;omega,by simp only;omega,by simp only;omega,by simp only;omega,by simp only;omega,by simp only;omega,rfl⟩
   ·simp only [List.length_append,List.length_singleton];omega
  ·rintro ⟨k,ts,b,j,d⟩ ⟨hk,hp,hl,hcu⟩
   simp only at hk hp hl hcu
   subst hk
   unfold fK
   simp only
   rw [if_neg (by omega)]
   exact ⟨_,rfl,hp,by simp only;omega,hcu⟩
 obtain ⟨q,e,hp,hl,hcu⟩:=key
 unfold brN at e
 rw [e];simp only
 obtain ⟨r11,e,hcu⟩:=tg hcu 2 (by omega)
 rw [e];simp only
 by_cases h1:r11.1=true
 ·rw [if_pos h1]
  obtain ⟨r12,e,g0,g1,hcu⟩:=bi hcu 2 (by omega)
  have g1:=g1 (by omega)
  rw [e];simp only
  rw [ai (by decide),ai (by decide)]
  obtain ⟨r13,e,k0,k1,hcu⟩:=bi hcu 2 (by omega)
  have k1:=k1 (by omega)
  rw [e];simp only
  rw [ai (by omega),ai (by omega),wr (x:=1+r12.1) (by omega) (by omega),wr (x:=1+r12.1+r13.1) (by omega) (by omega)]
  refine ⟨_,rfl,?_,?_,hcu⟩
  ·refine CR (ns:=brM) Tu Tw ?_ (by simp only [List.length_append,List.length_singleton];omega) (by omega)
   intro i hi
   rw [List.length_append,List.length_singleton] at hi
   by_cases hi':i<q.1.length
   ·rw [List.getElem_append_left hi']
    have h:=hp _ (List.getElem_mem hi')
    exact ⟨h.b (by decide),h.f⟩
   ·have hie:i=q.1.length:=by omega
    subst hie
    rw [List.getElem_append_right (Nat.le_refl _)]
    simp only [Nat.sub_self,List.getElem_cons_zero]
    constructor
    ·unfold tieB
     rw [decide_eq_true_eq]
     refine ⟨⟨by simp only;omega,(by decide:(2:Int)<((brM.length:Nat):Int))⟩,⟨by simp only;omega,(by decide:(4:Int)<((brM.length:Nat):Int))⟩,by simp only;omega,by simp only;omega,by simp only;omega,by simp only;omega⟩
    ·unfold iR
     simp only [Bool.not_true,Bool.false_or,Bool.and_eq_true,decide_eq_true_eq]
     refine ⟨⟨by omega,by decide⟩,?_⟩
     rw [Bool.not_eq_true',List.any_eq_false]
     intro u hu hx
     rw [List.take_append_of_le_length (Nat.le_refl _),List.take_length] at hu
     rw [(hp u hu).fr] at hx
     simp at hx
  ·refine ⟨(by decide:brM.length≤1048576),by simp only [List.length_append,List.length_singleton];omega,?_⟩
   intro n hn
   have:∀ n,n∈brM→FitN n:=by
    intro n hn
    unfold brM brN at hn
    simp only [List.mem_append,List.mem_cons,List.not_mem_nil,or_false] at hn
    rcases hn with (rfl | rfl | rfl | rfl) | rfl <;> exact ⟨by decide,by decide⟩
   exact this n hn
 ·rw [if_neg h1]
  refine ⟨_,rfl,?_,?_,hcu⟩
  ·refine CR (ns:=brN) Tt Tv ?_ (by omega) (by omega)
   intro i hi
   have h:=hp _ (List.getElem_mem hi)
   exact ⟨h.b (by decide),h.f⟩
  ·refine ⟨(by decide:brN.length≤1048576),by show q.1.length≤_;omega,?_⟩
   intro n hn
   have:∀ n,n∈brN→FitN n:=by
    intro n hn
    unfold brN at hn
    simp only [List.mem_cons,List.not_mem_nil,or_false] at hn
    rcases hn with rfl | rfl | rfl | rfl <;> exact ⟨by decide,by decide⟩
   exact this n hn
theorem IL {c:GL01Cur}(hc:Cur c):∃ r,jW c=some r∧aC r.1=true∧FitS r.1∧Cur r.2:=by
 unfold jW
 obtain ⟨r1,e,hc⟩:=tg hc 3 (by omega)
 rw [e];simp only [obnd]
 by_cases h1:r1.1=true
 ·rw [if_pos h1]
  obtain ⟨r,e,h1,h2,h3⟩:=FB hc
  rw [e]
  exact ⟨_,rfl,h1,h2,h3⟩
 ·rw [if_neg h1]
  obtain ⟨r,e,h1,h2,h3⟩:=GB hc
  rw [e]
  exact ⟨_,rfl,h1,h2,h3⟩
theorem GG (code:List Int)(h:code.length≤1048576):∃ s,jk code=some s∧aC s=true∧FitS s:=by
 unfold jk
 obtain ⟨c,e,hc⟩:=CK code h
 rw [e];simp only [obnd]
 obtain ⟨r,e,h1,h2,_⟩:=IL hc
 rw [e]
 exact ⟨_,rfl,h1,h2⟩
end Go.Proofs.Qd
set_option maxRecDepth 100000
set_option maxHeartbeats 1000000
namespace Go.Proofs.Qd
open Go
theorem GH {s:GShow}{x:GState}(hs:bw s)(fx:FitX x)(hx:aD s x=true):kM s x=some (win s x):=by
 unfold kM
 rw [oa s x hs fx.times fx.values]
 simp only [obnd]
 rw [hx,if_pos rfl]
 unfold im
 simp only
 obtain ⟨k,_,e⟩:=BK hs x.now (ca hx).now.1 [] x hx rfl (uU s)
 rw [e]
end Go.Proofs.Qd
set_option maxRecDepth 100000
set_option maxHeartbeats 1000000
namespace Go.Proofs.Qd
open Go
theorem GJ (code:List Int)(n:Int)(h:code.length≤1048576)(h0:0≤n)(h1:n≤1000000):∃ r,jX code n=some r∧0≤r:=by
 unfold jX
 obtain ⟨c,e,hc⟩:=JX code n h h0 h1
 rw [e]
 simp only [obnd]
 obtain ⟨r,e,a0,a1,hr⟩:=qa hc
 rw [e]
 simp only
 obtain ⟨q,e,b0,b1,hq⟩:=qa hr
 rw [e]
 refine ⟨_,rfl,?_⟩
 rw [wr (x:=r.1*256) (by omega) (by omega),wr (x:=r.1*256+q.1) (by omega) (by omega)]
 omega
end Go.Proofs.Qd
set_option maxRecDepth 100000
set_option maxHeartbeats 1000000
namespace Go.Proofs.Qd
open Go
theorem wq {s:GShow}{k:Int}(h:k∈aY s):∃ i,∃ hi:i<s.ties.length,k=(i:Int)∧s.ties[i].free=true:=by
 obtain ⟨i,hi,hp,rfl⟩:=cR.1 h
 unfold bC at hp
 rw [List.getElem?_eq_getElem hi] at hp
 exact ⟨i,hi,rfl,hp⟩
theorem FC {s:GShow}(h:aC s=true):(aY s).length≤6:=by
 have hR:=aU h
 have hn:=hR.nodes
 have hnd:((aY s).map (fun k=>(aB s k).to)).Nodup:=by
  unfold List.Nodup
  rw [List.pairwise_map]
  refine List.Pairwise.imp_of_mem ?_ (oe _ _)
  intro a b ha hb hab he
  obtain ⟨i,hi,rfl,hf⟩:=wq ha
  obtain ⟨j,hj,rfl,hg⟩:=wq hb
  rw [bh hi,bh hj] at he
  have:=qG h hi hj hf hg he
  omega
 have:=ri (r:=[1,2,3,4,5,6]) hnd (fun y hy=>by
  rw [List.mem_map] at hy
  obtain ⟨k,hk,rfl⟩:=hy
  obtain ⟨i,hi,rfl,hf⟩:=wq hk
  rw [bh hi]
  have hT:=hR.tie _ (List.getElem_mem hi)
  have h0:=(cJ h hi hf).t0
  have h1:=hT.t0
  have h2:=hT.t1
  simp only [List.mem_cons,List.not_mem_nil,or_false]
  omega)
 simpa using this
theorem Kn {s:GShow}(h:aC s=true){k:Int}(hk:k∈aY s):∃ t,getI s.ties k=some t∧-20≤t.low∧t.low≤t.high∧t.high≤20:=by
 obtain ⟨i,hi,rfl,_⟩:=wq hk
 have hT:=(aU h).tie _ (List.getElem_mem hi)
 exact ⟨_,aw hi,hT.lo,hT.lh,hT.hi⟩
theorem LK {s:GShow}(hf:FitS s)(h:aC s=true):∃ n,cO s=some n∧1≤n∧n≤1000000000000:=by
 have h6:=FC h
 have hs:=hf.small
 unfold cO
 rw [GQ s hs,h]
 simp only [obnd,if_true]
 rw [Ac s hf.ties]
 change ∃ n,(obnd (ak (cI (((aY s).length:Nat):Int) s.nodes s.ties s.horizon (aY s)) (1,0)) _)=_∧_
 have key:∃ q,ak (cI (((aY s).length:Nat):Int) s.nodes s.ties s.horizon (aY s)) (1,0)=some q∧1≤q∧q≤4750104241:=by
  have hp:∀ i:Nat,i≤6→(41:Int)^i≤4750104241:=by
   intro i hi
   have:i=0∨i=1∨i=2∨i=3∨i=4∨i=5∨i=6:=by omega
   rcases this with rfl | rfl | rfl | rfl | rfl | rfl | rfl <;> decide
  refine cp (aY s).length (fun i st=>st.2=(i:Int)∧1≤st.1∧st.1≤41^i) _ ⟨rfl,by decide,by decide⟩ ?_ ?_
  ·rintro i ⟨n,v⟩ hi ⟨hk,h1,h2⟩
   simp only at hk h1 h2
   subst hk
   obtain ⟨t,e,b1,b2,b3⟩:=Kn h (List.getElem_mem hi)
   unfold cI
   simp only
   rw [if_pos (by omega),aw hi]
   simp only [obnd]
   rw [e]
   simp only
   have hp1:=hp (i+1) (by omega)
   rw [wr (x:=t.high - t.low) (by omega) (by omega),wr (x:=t.high - t.low+1) (by omega) (by omega)]
   have hm:n*(t.high - t.low+1)≤41^i*41:=Int.mul_le_mul h2 (by omega) (by omega) (by omega)
   have hm0:1*1≤n*(t.high - t.low+1):=Int.mul_le_mul h1 (by omega) (by omega) (by omega)
   rw [Int.pow_succ] at hp1
   rw [wr (x:=n*(t.high - t.low+1)) (by omega) (by omega),wr (x:=(i:Int)+1) (by omega) (by omega)]
   refine .inl ⟨_,rfl,by simp only;omega,by simp only;omega,?_⟩
   simp only
   rw [Int.pow_succ]
   exact hm
  ·rintro ⟨n,v⟩ ⟨hk,h1,h2⟩
   simp only at hk h1 h2
   subst hk
   unfold cI
   simp only
   rw [if_neg (by omega)]
   exact ⟨_,rfl,h1,Int.le_trans h2 (hp _ h6)⟩
 obtain ⟨q,e,q1,q2⟩:=key
 rw [e]
 simp only [obnd]
 have key:∃ r,ak (dQ s.nodes s.ties s.horizon) (q,1)=some r∧1≤r∧r≤1000000000000:=by
  refine cp 3 (fun i st=>st.2=1+(i:Int)∧1≤st.1∧(i=0→st.1≤4750104241)∧(i=1→st.1≤9500208482)∧(i=2→st.1≤19000416964)∧(i=3→st.1≤38000833928)) _ (by refine ⟨by simp,q1,?_,?_,?_,?_⟩ <;> intro h <;> first | exact q2 | omega) ?_ ?_
  ·rintro i ⟨n,p⟩ hi ⟨hk,h1,h2,h3,h4,h5⟩
   simp only at hk h1 h2 h3 h4 h5
   subst hk
   unfold dQ
   simp only
   rw [if_pos (by omega),show (GShow.mk s.nodes s.ties s.horizon)=s from rfl,mE s _ hs.nodes]
   simp only [obnd]
   have hb:n≤19000416964:=by
    have:i=0∨i=1∨i=2:=by omega
    rcases this with rfl | rfl | rfl
    ·have:=h2 rfl;omega
    ·have:=h3 rfl;omega
    ·exact h4 rfl
   rw [wr (x:=1+(i:Int)+1) (by omega) (by omega)]
   split
   ·rw [wr (x:=2*n) (by omega) (by omega)]
    refine .inl ⟨_,rfl,by simp only;omega,by simp only;omega,fun h=>by omega,fun h=>?_,fun h=>?_,fun h=>?_⟩
    ·have:=h2 (by omega);simp only;omega
    ·have:=h3 (by omega);simp only;omega
    ·have:=h4 (by omega);simp only;omega
   ·refine .inl ⟨_,rfl,by simp only;omega,h1,fun h=>by omega,fun h=>?_,fun h=>?_,fun h=>?_⟩
    ·have:=h2 (by omega);simp only;omega
    ·have:=h3 (by omega);simp only;omega
    ·have:=h4 (by omega);simp only;omega
  ·rintro ⟨n,p⟩ ⟨hk,h1,h2,h3,h4,h5⟩
   simp only at hk h1 h2 h3 h4 h5
   subst hk
   unfold dQ
   simp only
   rw [if_neg (by omega)]
   exact ⟨_,rfl,h1,by have:=h5 trivial;omega⟩
 obtain ⟨r,e,r1,r2⟩:=key
 rw [e]
 exact ⟨_,rfl,r1,r2⟩
end Go.Proofs.Qd
set_option maxRecDepth 100000
set_option maxHeartbeats 1000000
namespace Go.Proofs.Qd
open Go
theorem IM {s:GShow}(h:aC s=true){i:Nat}(hi:i<s.ties.length)(hf:s.ties[i].free=true):dx s s.ties[i].to.toNat=dx s s.ties[i].from_.toNat:=by
 have hR:=aU h
 have hT:=hR.tie _ (List.getElem_mem hi)
 unfold aC at h
 simp only [Bool.and_eq_true,decide_eq_true_eq] at h
 have hp:=h.1.1.1.2 i hi
 rw [lN hi,Bool.and_eq_true] at hp
 have hF:=hp.2
 unfold iR at hF
 rw [hf] at hF
 simp only [Bool.not_true,Bool.false_or,Bool.and_eq_true,decide_eq_true_eq] at hF
 obtain ⟨⟨⟨h1,h2⟩,h3⟩,h4⟩:=hF
 have a1:=hT.t1
 have a2:=hT.f1
 have b1:s.nodes[s.ties[i].to.toNat]?=some (s.nodes[s.ties[i].to.toNat]'(by have:=hT.t0;omega)):=List.getElem?_eq_getElem _
 have b2:s.nodes[s.ties[i].from_.toNat]?=some (s.nodes[s.ties[i].from_.toNat]'(by have:=hT.f0;omega)):=List.getElem?_eq_getElem _
 rw [b1,b2] at h3
 simp only [decide_eq_true_eq] at h3
 unfold dx
 rw [b1,b2]
 simp only [Option.map_some,Option.getD_some]
 exact h3.2
theorem Ay {s:GShow}(h:aC s=true):dx s 0=[]∧∀ (h0:0<s.nodes.length),s.nodes[0].watch=0:=by
 have hR:=aU h
 have hn:=hR.node1
 unfold aC eJ oN at h
 simp only [Bool.and_eq_true] at h
 obtain ⟨⟨⟨⟨⟨⟨h1,hf⟩,_⟩,h2⟩,h3⟩,h4⟩,_⟩:=h
 rw [List.getElem?_eq_getElem (show 0<s.nodes.length by omega)] at hf
 simp only [Option.any_some,Bool.and_eq_true,decide_eq_true_eq] at hf
 refine ⟨?_,fun _=>hf.2⟩
 rw [oL (by omega)]
 exact hf.1
theorem FD {ps v:List Int}(f:Int→Int)(hv:v.length=3)(hp:∀ p,p∈ps→1≤p∧p≤3):∀ n,n≤ps.length→∀ k:Int,0≤k→(∃ i,i<n∧ps.getD i 0 - 1=k)→tm (setV ps (ps.map f) v n) k=f (k+1)
 | 0,_,k,_,h=>by obtain ⟨i,hi,_⟩:=h;omega
 | n+1,hn,k,hk,h=>by
  rw [lw]
  have hb:=hp (ps.getD n 0) (by rw [List.getD_eq_getElem?_getD,List.getElem?_eq_getElem (show n<ps.length by omega)];exact List.getElem_mem _)
  rw [Ak _ _ _ _ (by omega) (by rw [lx];omega) hk]
  by_cases e:k=ps.getD n 0 - 1
  ·rw [if_pos e,List.getD_eq_getElem?_getD,List.getElem?_map,List.getElem?_eq_getElem (show n<ps.length by omega)]
   rw [List.getD_eq_getElem?_getD,List.getElem?_eq_getElem (show n<ps.length by omega),Option.getD_some] at e
   simp only [Option.map_some,Option.getD_some]
   congr 1;omega
  ·rw [if_neg e]
   obtain ⟨i,hi,he⟩:=h
   exact FD f hv hp n (by omega) k hk ⟨i,by rcases Nat.lt_or_ge i n with h1 | h1;exact h1;exact absurd (by rw [← he,show i=n by omega]) e,he⟩
structure sx (s:GShow) (c:GChoice) (x:GState):Prop where
 val:∀ k:Int,0≤k→k<3→tm x.values k≠0→tm x.values k=tm c.values k
 lab:∀ i:Nat,i<s.nodes.length→tm x.times (i:Int)≠-1→eN (dx s i) x.values=1
 lit:∀ i:Nat,i<s.nodes.length→tm x.times (i:Int)≠-1→∀ l,l∈dx s i→tm x.times (bz s (pr l))≠-1∧tm x.times (bz s (pr l))+1≤tm x.times (i:Int)
 ord:∀ i (hi:i<s.ties.length),s.ties[i].free=true→tm x.times s.ties[i].to≠-1→tm x.times s.ties[i].from_≠-1
 act:∀ i (hi:i<s.ties.length),s.ties[i].free=true→tm x.times s.ties[i].from_≠-1→tm x.times s.ties[i].to=-1→x.now - tm x.times s.ties[i].from_≤bD s c (i:Int)
 fin:∀ i (hi:i<s.ties.length),s.ties[i].free=true→tm x.times s.ties[i].to≠-1→tm x.times s.ties[i].to - tm x.times s.ties[i].from_=bD s c (i:Int)
theorem Nz {s:GShow}{i:Nat}(hi:i<s.ties.length)(hf:s.ties[i].free=true):(i:Int)∈aY s:=by
 refine cR.2 ⟨i,hi,?_,rfl⟩
 unfold bC
 rw [List.getElem?_eq_getElem hi];exact hf
theorem yh {s:GShow}{c:GChoice}(hc:bR s c=true)(h:aC s=true){i:Nat}(hi:i<s.ties.length)(hf:s.ties[i].free=true):s.ties[i].low≤bD s c (i:Int)∧bD s c (i:Int)≤s.ties[i].high:=by
 have hm:=Nz hi hf
 have hlt:=Fh hm
 have hl:=uK hc
 unfold bR at hc
 simp only [Bool.and_eq_true,decide_eq_true_eq] at hc
 have hp:=hc.1.2 (idxOf (aY s) (i:Int)).toNat (by omega)
 unfold lenP at hp
 rw [decide_eq_true_eq] at hp
 have e:(aY s).getD (idxOf (aY s) (i:Int)).toNat 0=(i:Int):=by
  have h0:=hlt.1
  unfold idxOf at h0 ⊢
  cases hf:(List.range (aY s).length).find? (fun j=>decide ((i:Int)=(aY s).getD j 0)) with
  | none=>rw [hf] at h0;simp at h0
  | some j=>
   have:=List.find?_some hf
   simp only [decide_eq_true_eq] at this
   simp only [Int.toNat_natCast]
   exact this.symm
 rw [e,bh hi] at hp
 have e2:c.lengths.getD (idxOf (aY s) (i:Int)).toNat 0=bD s c (i:Int):=by
  unfold bD;rw [List.getD_eq_getElem?_getD]
 rw [e2] at hp
 exact hp
theorem Ko {s:GShow}{c:GChoice}(h:aC s=true)(hc:bR s c=true):sx s c (bu s):=by
 have hR:=aU h
 have hn:=hR.node1
 have h0:=Ay h
 have ht:∀ i:Int,0≤i→i<s.nodes.length→tm (bu s).times i≠-1→i=0:=by
  intro i hi hl hne
  refine Classical.byContradiction (fun h1=>hne ?_)
  have key:∀ n (j:Nat),j<n→0<j→(stL n)[j]?=some (-1):=by
   intro n
   induction n with
   | zero=>intro j hj;omega
   | succ n ih=>
    intro j hj hj0
    cases n with
    | zero=>omega
    | succ n=>
     rw [tf]
     rcases Nat.lt_or_ge j (n+1) with h2 | h2
     ·rw [List.getElem?_append_left (by rw [ka];exact h2)];exact ih j h2 hj0
     ·rw [List.getElem?_append_right (by rw [ka];exact h2),ka,show j - (n+1)=0 by omega];rfl
  show tm (stL s.nodes.length) i=-1
  unfold tm
  rw [key s.nodes.length i.toNat (by omega) (by omega)];rfl
 have ht0:tm (bu s).times 0=0:=by
  show tm (stL s.nodes.length) 0=0
  have key:∀ n,(stL (n+1))[0]?=some 0:=by
   intro n
   induction n with
   | zero=>rfl
   | succ n ih=>rw [tf,List.getElem?_append_left (by rw [ka];omega)];exact ih
  obtain ⟨n,hn2⟩:=Nat.exists_eq_add_of_le hn
  rw [hn2,Nat.add_comm]
  unfold tm
  rw [show (0:Int).toNat=0 from rfl,key n];rfl
 refine ⟨?_,?_,?_,?_,?_,?_⟩
 ·intro k h1 h2 hne
  refine absurd ?_ hne
  show tm (List.replicate 3 0) k=0
  have:k=0∨k=1∨k=2:=by omega
  rcases this with rfl | rfl | rfl <;> rfl
 ·intro i hi hne
  have:=ht i (by omega) (by omega) hne
  have:i=0:=by omega
  subst this
  rw [h0.1];rfl
 ·intro i hi hne l hl
  have:=ht i (by omega) (by omega) hne
  have:i=0:=by omega
  subst this
  rw [h0.1] at hl;cases hl
 ·intro i hi hf hne
  have hT:=hR.tie _ (List.getElem_mem hi)
  exact absurd (ht _ hT.t0 hT.t1 hne) (cJ h hi hf).t0
 ·intro i hi hf hne _
  have hT:=hR.tie _ (List.getElem_mem hi)
  have e:=ht _ hT.f0 hT.f1 hne
  rw [e,ht0]
  have:=(yh hc h hi hf).1
  have:=(cJ h hi hf).low
  show (0:Int) - 0≤_
  omega
 ·intro i hi hf hne
  have hT:=hR.tie _ (List.getElem_mem hi)
  exact absurd (ht _ hT.t0 hT.t1 hne) (cJ h hi hf).t0
theorem Az {s:GShow}{x:GState}(hx:aD s x=true){ties:List Int}(ht:ties∈bZ s x){nodes:List Int}(hn:nodes∈decL s (endX s x ties))(vs:List Int) :
  ∀ i:Int,0≤i→tm (obsX (decX (endX s x ties) nodes) (aF s nodes) vs).times i=if i∈nodes then x.now else if i∈ties.map (fun k=>(aB s k).to) then x.now else tm x.times i:=by
 have hR:=ca hx
 obtain ⟨_,_,ha⟩:=jq hR.ok ht
 have hM:=kc hx ht
 obtain ⟨_,_,hm⟩:=fA hM.right hn
 have hlen:(endX s x ties).times.length=s.nodes.length:=hM.len
 intro i hi
 show tm (bQ (fun k=>k) (endX s x ties).now nodes (endX s x ties).times) i=_
 rw [pv _ _ _ _ _ hi (fun k hk=>by obtain ⟨j,hj,e,_,_⟩:=mB (hm k hk);omega),List.map_id',qf hx ha hi]
 rfl
theorem AA {s:GShow}{x:GState}(hx:aD s x=true){i:Nat}(hi:i<s.nodes.length)(hl:eN (dx s i) x.values=1){l:Int}(hm:l∈dx s i) :
  0≤bz s (pr l)∧bz s (pr l)<s.nodes.length∧tm x.times (bz s (pr l))≠-1∧tm x.times (bz s (pr l))+1≤x.now:=by
 have hR:=ca hx
 have h1:=(CP.1 hl) l hm
 have hlo:=su hR.ok hi
 rw [oL hi] at hm
 obtain ⟨p1,p2,p3⟩:=va hlo.1 hm
 have p4:=yg p2 p3
 have hne:tm x.values (pr l - 1)≠0:=by
  unfold litV at h1
  split at h1 <;> omega
 have hx2:=hx
 unfold aD at hx2
 simp only [Bool.and_eq_true,decide_eq_true_eq] at hx2
 have hw:=hx2.2 (pr l - 1).toNat (by unfold gF;omega)
 unfold jZ at hw
 rw [show (((pr l - 1).toNat:Nat):Int)=pr l - 1 by omega] at hw
 change (decide (tm x.values (pr l - 1)≠0) == (decide (0≤bz s (pr l - 1+1))&&decide (tm x.times (bz s (pr l - 1+1))≠-1)))=true at hw
 rw [show pr l - 1+1=pr l by omega,decide_eq_true hne] at hw
 simp only [beq_iff_eq,Bool.true_eq,Bool.and_eq_true,decide_eq_true_eq] at hw
 obtain ⟨w1,w2⟩:=hw
 obtain ⟨j,hj,e,hq,_⟩:=gp (show 0≤aK s.nodes (fun n=>decide (n.watch=pr l)) from w1)
 have e':bz s (pr l)=(j:Int):=e
 refine ⟨w1,by rw [e'];omega,w2,?_⟩
 have hj0:j≠0:=by
  rintro rfl
  have:=(Ay hR.ok).2 hj
  simp only [decide_eq_true_eq] at hq
  omega
 have htp:=hx2.1.2 j (by rw [hR.len];exact hj)
 unfold lI at htp
 rw [if_neg hj0,decide_eq_true_eq] at htp
 rw [e'];omega
theorem LL {s:GShow}{c:GChoice}{x:GState}(hx:aD s x=true)(hc:bR s c=true)(hI:sx s c x)(ht:endL s x c∈bZ s x){nodes:List Int}(hn:nodes∈decL s (endX s x (endL s x c))) :
  sx s c (obsX (decX (endX s x (endL s x c)) nodes) (aF s nodes) (db c.values (aF s nodes))):=by
 have hR:=ca hx
 have hok:=hR.ok
 obtain ⟨hh,_,ha⟩:=jq hok ht
 have hM:=kc hx ht
 obtain ⟨_,_,hm⟩:=fA hM.right hn
 have hE:=LC hx hh ht hn (db c.values (aF s nodes))
 have hT:=Az hx ht hn (db c.values (aF s nodes))
 have heL:endL s x c=(actL s x).filter (fun k=>!endP s x c k):=by unfold endL;rw [if_pos ⟨hx,hc⟩]
 have hx2:=hx
 unfold aD at hx2
 simp only [Bool.and_eq_true,decide_eq_true_eq] at hx2
 have htp:∀ j:Nat,j<s.nodes.length→j≠0→tm x.times (j:Int)≤x.now - 1:=by
  intro j hj hj0
  have h5:=hx2.1.2 j (by rw [hR.len];exact hj)
  unfold lI at h5
  rw [if_neg hj0,decide_eq_true_eq] at h5
  exact h5.2
 have hV:(obsX (decX (endX s x (endL s x c)) nodes) (aF s nodes) (db c.values (aF s nodes))).values=setV (aF s nodes) ((aF s nodes).map (fun p=>tm c.values (p - 1))) x.values (aF s nodes).length:=rfl
 have hN:(obsX (decX (endX s x (endL s x c)) nodes) (aF s nodes) (db c.values (aF s nodes))).now=x.now+1:=rfl
 generalize hz:obsX (decX (endX s x (endL s x c)) nodes) (aF s nodes) (db c.values (aF s nodes))=z at *
 have newN:∀ i:Int,i∈nodes→∃ j:Nat,i=(j:Int)∧j<s.nodes.length∧0<j∧kO s (j:Int)<0∧eN (dx s j) x.values=1:=by
  intro i hi
  obtain ⟨j,hj,hp,rfl⟩:=cR.1 (hm i hi)
  unfold enAt chAt opAt at hp
  simp only [Bool.and_eq_true,decide_eq_true_eq] at hp
  exact ⟨j,rfl,hj,hp.1.1,hp.1.2,hp.2.2⟩
 have newT:∀ i:Int,i∈(endL s x c).map (fun k=>(aB s k).to)→∃ k,∃ hk:k<s.ties.length,s.ties[k].free=true∧s.ties[k].to=i∧tm x.times s.ties[k].from_≠-1∧tm x.times i=-1∧¬ x.now - tm x.times s.ties[k].from_<bD s c (k:Int):=by
  intro i hi
  rw [List.mem_map] at hi
  obtain ⟨k,hk,rfl⟩:=hi
  obtain ⟨j,hj,rfl,h1,h2,h3⟩:=kN (ha k hk)
  rw [heL,List.mem_filter] at hk
  have h4:=hk.2
  unfold endP at h4
  rw [bh hj] at h4 ⊢
  simp only [Bool.not_eq_true',decide_eq_false_iff_not] at h4
  exact ⟨j,hj,h1,rfl,h2,h3,h4⟩
 have labN:∀ i:Nat,i<s.nodes.length→eN (dx s i) x.values=1→eN (dx s i) z.values=1:=by
  intro i hi hl
  have:=LD hR hE (i:=(i:Int)) (by omega) (by omega) (by unfold Ar;rw [decide_eq_true_eq];exact hl)
  unfold Ar at this
  rw [decide_eq_true_eq] at this
  exact this
 have litN:∀ i:Nat,i<s.nodes.length→eN (dx s i) x.values=1→x.now≤tm z.times (i:Int)→∀ l,l∈dx s i→tm z.times (bz s (pr l))≠-1∧tm z.times (bz s (pr l))+1≤tm z.times (i:Int):=by
  intro i hi hl hnow l hm
  obtain ⟨w1,w2,w3,w4⟩:=AA hx hi hl hm
  rw [hE.t1 _ w1 w2 w3]
  exact ⟨w3,by omega⟩
 have fromLab:∀ k (hk:k<s.ties.length),s.ties[k].free=true→tm x.times s.ties[k].from_≠-1→∀ i:Nat,s.ties[k].to=(i:Int)→eN (dx s i) x.values=1:=by
  intro k hk hf hne i hi
  have hTk:=hR.right.tie _ (List.getElem_mem hk)
  have h1:=hI.lab s.ties[k].from_.toNat (by have:=hTk.f0;have:=hTk.f1;omega) (by rw [show ((s.ties[k].from_.toNat:Nat):Int)=s.ties[k].from_ by have:=hTk.f0;omega];exact hne)
  rw [← IM hok hk hf,hi,Int.toNat_natCast] at h1
  exact h1
 refine ⟨?_,?_,?_,?_,?_,?_⟩
 ·intro k h1 h2 hne
  by_cases h0:tm x.values k=0
  ·rw [hV] at hne ⊢
   by_cases hin:∃ i,i<(aF s nodes).length∧(aF s nodes).getD i 0 - 1=k
   ·rw [FD _ (bE hR.val).1 (fun p hp=>⟨(bO hp).1,(bO hp).2.1⟩) _ (Nat.le_refl _) k h1 hin]
    simp only [Int.add_sub_cancel]
   ·rw [sw (bE hR.val).1 (fun p hp=>⟨(bO hp).1,(bO hp).2.1⟩) _ (Nat.le_refl _) k h1 (fun i hi he=>hin ⟨i,hi,he⟩)] at hne
    exact absurd h0 hne
  ·rw [hE.v k h1 h0]
   exact hI.val k h1 h2 h0
 ·intro i hi hne
  refine labN i hi ?_
  rw [hT _ (by omega)] at hne
  by_cases h1:(i:Int)∈nodes
  ·obtain ⟨j,e,_,_,_,h2⟩:=newN _ h1
   obtain rfl:i=j:=by omega
   exact h2
  ·rw [if_neg h1] at hne
   by_cases h2:(i:Int)∈(endL s x c).map (fun k=>(aB s k).to)
   ·obtain ⟨k,hk,hf,e,h3,h4,_⟩:=newT _ h2
    exact fromLab k hk hf h3 i e
   ·rw [if_neg h2] at hne
    exact hI.lab i hi hne
 ·intro i hi hne l hl
  by_cases h1:(i:Int)∈nodes
  ·obtain ⟨j,e,_,_,_,h2⟩:=newN _ h1
   obtain rfl:i=j:=by omega
   exact litN i hi h2 (by rw [hT _ (by omega),if_pos h1];exact Int.le_refl _) l hl
  ·by_cases h2:(i:Int)∈(endL s x c).map (fun k=>(aB s k).to)
   ·obtain ⟨k,hk,hf,e,h3,h4,_⟩:=newT _ h2
    exact litN i hi (fromLab k hk hf h3 i e) (by rw [hT _ (by omega),if_neg h1,if_pos h2];exact Int.le_refl _) l hl
   ·have hne':tm x.times (i:Int)≠-1:=by rw [hT _ (by omega),if_neg h1,if_neg h2] at hne;exact hne
    obtain ⟨w3,w4⟩:=hI.lit i hi hne' l hl
    obtain ⟨w1,w2,_,_⟩:=AA hx hi (hI.lab i hi hne') hl
    rw [hE.t1 _ w1 w2 w3,hE.t1 (i:Int) (by omega) (by omega) hne']
    exact ⟨w3,w4⟩
 ·intro i hi hf hne
  have hTi:=hR.right.tie _ (List.getElem_mem hi)
  have hfr:tm x.times s.ties[i].from_≠-1:=by
   rw [hT _ hTi.t0] at hne
   by_cases h1:s.ties[i].to∈nodes
   ·obtain ⟨j,e,hj,_,h3,_⟩:=newN _ h1
    have:=hZ (xs:=s.ties) (q:=fun t=>t.free&&decide (t.to=(j:Int)))
    unfold kO at h3
    rw [decide_eq_false (by omega)] at this
    have h4:=this.symm
    rw [List.any_eq_false] at h4
    exact absurd (by rw [hf,decide_eq_true e];rfl) (h4 s.ties[i] (List.getElem_mem hi))
   ·rw [if_neg h1] at hne
    by_cases h2:s.ties[i].to∈(endL s x c).map (fun k=>(aB s k).to)
    ·obtain ⟨k,hk,hfk,e,h3,h4,_⟩:=newT _ h2
     obtain rfl:=qG hok hk hi hfk hf e
     exact h3
    ·rw [if_neg h2] at hne
     exact hI.ord i hi hf hne
  rw [hE.t1 _ hTi.f0 hTi.f1 hfr]
  exact hfr
 ·intro i hi hf hne hop
  have hTi:=hR.right.tie _ (List.getElem_mem hi)
  have hlen:=yh hc hok hi hf
  have hlow:=(cJ hok hi hf).low
  have hop':tm x.times s.ties[i].to=-1:=by
   refine Classical.byContradiction (fun h1=>?_)
   rw [hE.t1 _ hTi.t0 hTi.t1 h1] at hop
   exact h1 hop
  rw [hN]
  by_cases hfr:tm x.times s.ties[i].from_=-1
  ·have:tm z.times s.ties[i].from_=x.now:=by
    rw [hT _ hTi.f0] at hne ⊢
    by_cases h1:s.ties[i].from_∈nodes
    ·rw [if_pos h1]
    ·rw [if_neg h1] at hne ⊢
     by_cases h2:s.ties[i].from_∈(endL s x c).map (fun k=>(aB s k).to)
     ·rw [if_pos h2]
     ·rw [if_neg h2] at hne;exact absurd hfr hne
   omega
  ·rw [hE.t1 _ hTi.f0 hTi.f1 hfr]
   have hact:(i:Int)∈actL s x:=by
    refine cR.2 ⟨i,hi,?_,rfl⟩
    unfold lJ actT
    rw [List.getElem?_eq_getElem hi]
    simp only [Option.any_some,hf,Bool.true_and,decide_eq_true_eq]
    exact ⟨hfr,hop'⟩
   have hnot:¬ (i:Int)∈endL s x c:=by
    intro hin
    have:s.ties[i].to∈(endL s x c).map (fun k=>(aB s k).to):=List.mem_map.2 ⟨(i:Int),hin,by rw [bh hi]⟩
    have h1:=hT _ hTi.t0
    rw [if_pos this] at h1
    have h2:=hR.now
    split at h1 <;> omega
   have hlt:x.now - tm x.times s.ties[i].from_<bD s c (i:Int):=by
    refine Classical.byContradiction (fun h1=>hnot ?_)
    rw [heL,List.mem_filter]
    refine ⟨hact,?_⟩
    unfold endP
    rw [bh hi,decide_eq_false h1];rfl
   omega
 ·intro i hi hf hne
  have hTi:=hR.right.tie _ (List.getElem_mem hi)
  by_cases hto:tm x.times s.ties[i].to=-1
  ·have h0:=hT _ hTi.t0
   by_cases h1:s.ties[i].to∈nodes
   ·obtain ⟨j,e,hj,_,h3,_⟩:=newN _ h1
    have:=hZ (xs:=s.ties) (q:=fun t=>t.free&&decide (t.to=(j:Int)))
    unfold kO at h3
    rw [decide_eq_false (by omega)] at this
    have h4:=this.symm
    rw [List.any_eq_false] at h4
    exact absurd (by rw [hf,decide_eq_true e];rfl) (h4 s.ties[i] (List.getElem_mem hi))
   ·rw [if_neg h1] at h0
    by_cases h2:s.ties[i].to∈(endL s x c).map (fun k=>(aB s k).to)
    ·rw [if_pos h2] at h0
     obtain ⟨k,hk,hfk,e,h3,h4,h5⟩:=newT _ h2
     obtain rfl:=qG hok hk hi hfk hf e
     have:=hI.act k hk hf h3 hto
     rw [h0,hE.t1 _ hTi.f0 hTi.f1 h3]
     omega
    ·rw [if_neg h2] at h0
     rw [h0] at hne
     exact absurd hto hne
  ·have hfr:=hI.ord i hi hf hto
   rw [hE.t1 _ hTi.t0 hTi.t1 hto,hE.t1 _ hTi.f0 hTi.f1 hfr]
   exact hI.fin i hi hf hto
theorem FE (c:GChoice):∀ (n:Nat) (d:GDesk),di d=true→bR d.show_ c=true→sx d.show_ c d.state→sx d.show_ c (runF c n d).1.state∧(runF c n d).1.show_=d.show_
 | 0,d,_,_,hI=>⟨hI,rfl⟩
 | n+1,d,hd,hc,hI=>by
  unfold runF
  by_cases h0:(bv c d).2.2=0
  ·rw [if_pos h0]
   unfold bv at h0 ⊢
   obtain ⟨hg,nd,hnd,he⟩:=Av h0
   have hmem:nd∈decL d.show_ (endX d.show_ d.state (endL d.show_ d.state c)):=by
    unfold wo at hnd
    exact (pw hnd).1
   rw [he]
   have h1:=FA hg hmem
   have h2:=LL (ly hd) hc hI (ng hg).2.2.1 hmem
   exact FE c n _ h1 hc h2
  ·rw [if_neg h0]
   exact ⟨hI,rfl⟩
end Go.Proofs.Qd
set_option maxRecDepth 100000
set_option maxHeartbeats 1000000
namespace Go.Proofs.Qd
open Go Go.Lib
theorem AB (l:List UInt8):bs (ofL l)=l:=by simp [bs,ofL]
theorem Kq (s:ByteArray):ofL (bs s)=s:=by
 cases s;simp [bs,ofL]
theorem RB {a b:ByteArray}(h:bs a=bs b):a=b:=by rw [← Kq a,h,Kq]
theorem uX (a b:ByteArray):bs (a++b)=bs a++bs b:=by
 unfold bs;rw [ByteArray.data_append,Array.toList_append]
theorem BN (s:ByteArray):s.size=(bs s).length:=by unfold bs;rw [Array.length_toList];rfl
def i64 (n:Int):Prop:=-9223372036854775808≤n∧n≤9223372036854775807
theorem Dl {u:Nat}(h:¬ u<10):decDigits u=decDigits (u / 10)++[UInt8.ofNat (48+u % 10)]:=by rw [decDigits,dif_neg h]
theorem rm {u:Nat}(h:u<10):decDigits u=[UInt8.ofNat (48+u)]:=by rw [decDigits,dif_pos h]
theorem pL:∀ (k u:Nat),u<10^(k+1)→(decDigits u).length≤k+1
 | 0,u,h=>by rw [rm (by omega)];simp
 | k+1,u,h=>by
  by_cases h1:u<10
  ·rw [rm h1];simp
  ·rw [Dl h1,List.length_append,List.length_singleton]
   have:=pL k (u / 10) (by rw [Nat.pow_succ] at h;omega)
   omega
theorem yi {n:Int}(h:i64 n):(itoa n).length≤20:=by
 have h1:=h.1
 have h2:=h.2
 unfold itoa;split
 ·have:=pL 18 n.natAbs (by omega)
  simp only [List.length_cons];omega
 ·have:=pL 18 n.toNat (by omega)
  omega
theorem lM {n:Int}(h:i64 n):dd n=some (ofL (itoa n)):=by
 unfold dd lG HU
 rw [if_pos (show -9223372036854775808≤n∧n≤9223372036854775807 from h)];rfl
def val (l:List UInt8):Nat:=l.foldl (fun a c=>a*10+(c.toNat - 48)) 0
end Go.Proofs.Qd
set_option maxRecDepth 100000
set_option maxHeartbeats 1000000
namespace Go.Proofs.Qd
open Go Go.Lib
theorem LM {B:Nat}(sep:List UInt8)(xs:List (List UInt8))(h:∀ x,x∈xs→x.length≤B):(Lib.join xs sep).length≤xs.length*(B+sep.length):=by
 have key:∀ xs:List (List UInt8),(∀ x,x∈xs→x.length≤B)→(joinTail sep xs).length≤xs.length*(B+sep.length):=by
  intro xs
  induction xs with
  | nil=>intro _;simp [joinTail]
  | cons x r ih=>
   intro h
   have h1:=ih (fun y hy=>h y (by simp [hy]))
   have h2:=h x (by simp)
   simp only [joinTail,List.map_cons,List.flatten_cons,List.length_append,List.length_cons] at h1 ⊢
   rw [Nat.succ_mul];omega
 cases xs with
 | nil=>simp [Lib.join_nil]
 | cons x r=>
  rw [Lib.join_cons,List.length_append,List.length_cons,Nat.succ_mul]
  have h1:=key r (fun y hy=>h y (by simp [hy]))
  have h2:=h x (by simp)
  omega
def IP (l:List ByteArray)(sep:ByteArray):ByteArray:=ofL (Lib.join (l.map bs) (bs sep))
theorem Kr (l:List ByteArray)(sep:ByteArray)(h1:l.length≤1073741824)(h2:(Lib.join (l.map bs) (bs sep)).length≤1099511627776):jp l sep=some (IP l sep):=by
 unfold jp lH HV
 rw [if_pos ⟨by omega,by omega⟩];rfl
end Go.Proofs.Qd
