/- The reference's game reckons winning too. Own work. -/
import Derived.Test.YtpodkllkinpfmaaGreatDoorXiP33
import Derived.Test.YtpodkllkinpfmaaGreatDoorXiP24
import Derived.Lib.AtoiAllCases
import Derived.Lib.IndexBytes
set_option linter.all false
set_option maxRecDepth 100000
namespace Go.Proofs.Qi
open Go
end Go.Proofs.Qi
set_option maxRecDepth 100000
namespace Go.Proofs.Qi
open Go
theorem EE {α:Type}{l:List α}{n:Nat}{x:α}(h:n<l.length):(l.set n x).take (n+1)=l.take n++[x]:=by
 have e:(l.set n x).take n=l.take n:=by
  apply List.ext_getElem?
  intro i
  rw[List.getElem?_take,List.getElem?_take]
  split
  ·rw[List.getElem?_set_ne (by omega)]
  rfl
 rw[ce (by simp;exact h),e]
 simp
theorem Mb {α:Type}{xs ys:List α}{i:Nat}(h:i+ys.length≤xs.length):(putL xs i ys).take i=xs.take i:=by
 unfold putL
 rw[if_pos h,List.append_assoc,List.take_append_of_le_length (by rw[List.length_take];omega),List.take_take]
 simp
theorem Me {α β ρ:Type}(xs:List α)(q:α→Bool)(I:β→Prop)(body:Int × β→Option (Step (Int × β) ρ))(rT:β→ρ)(rF:Int→β→ρ)
  (h1:∀ i (hi:i<xs.length) k,I k→∃ k',I k'∧body ((i:Int),k)=some (if q xs[i]=true then .done (rF (i:Int) k') else .next ((i:Int)+1,k')))
  (h2:∀ k,I k→body ((xs.length:Int),k)=some (.done (rT k))) (k:β) (hk:I k) :
  ∃ k',I k'∧ai body (0,k)=some (if 0≤aK xs q then rF (aK xs q) k' else rT k'):=by
 have key:=aW (body:=body) (s0:=((0:Int),k)) xs.length (fun i st=>st.1=(i:Int)∧I st.2∧∀ j (hj:j<xs.length),j<i→q xs[j]=false)
  (fun r=>∃ k',I k'∧r=(if 0≤aK xs q then rF (aK xs q) k' else rT k')) ⟨rfl,hk,fun j _ h=>absurd h (by omega)⟩ ?_ ?_
 ·obtain⟨r,hr,hp⟩:=key
  obtain⟨k',h3,rfl⟩:=hp
  exact⟨k',h3,hr⟩
 ·rintro i ⟨a,k⟩ hi ⟨rfl,hI,hall⟩
  obtain⟨k',hk',hb⟩:=h1 i hi k hI
  cases hq:q xs[i]
  ·rw[hq,if_neg (by simp)]at hb
   refine .inl ⟨_,hb,rfl,hk',fun j hj hlt=>?_⟩
   rcases Nat.lt_or_ge j i with h|h
   ·exact hall j hj h
   obtain rfl:j=i:=by omega
   exact hq
  rw[hq,if_pos rfl]at hb
  refine .inr ⟨_,hb,k',hk',?_⟩
  have:aK xs q=(i:Int):=by
   unfold aK
   have:xs.findIdx? q=some i:=by
    rw[List.findIdx?_eq_some_iff_getElem]
    exact⟨hi,hq,fun j hj=>by simp[hall j (by omega) hj]⟩
   rw[this]
  rw[this,ifP]
 rintro⟨a,k⟩ ⟨rfl,hI,hall⟩
 refine⟨_,h2 k hI,k,hI,?_⟩
 rw[if_neg]
 intro h0
 obtain⟨j,hj,_,hq,_⟩:=ix h0
 rw[hall j hj hj]at hq
 cases hq
theorem Gb {α:Type}{xs:List α}{q:α→Bool}(h:¬ 0≤aK xs q):aK xs q=-1∧xs.any q=false:=by
 constructor
 ·unfold aK at h ⊢
  cases hf:xs.findIdx? q with
  | none=>rfl
  | some j=>rw[hf]at h;simp at h
 rw[← kB];exact decide_eq_false h
section
variable {s:GShow} {y:GState}
theorem PZ (hs:bL s)(h:MomR s y){nodes:List Int}(hn:nodes∈decL s y){known:List (ByteArray × Bool)}(hk:cy s known) :
  ∃ known',cy s known'∧eJ nodes s known y=some (!dU (win s) s y nodes,known'):=by
 obtain⟨k',hk',e⟩:=Aa (ED hs _ (by have:=h.now;omega)) h hn hk
 refine⟨k',hk',?_⟩
 unfold eJ na
 rw[e];rfl
theorem EF (hs:bL s)(h:MomR s y)(xs:List (List Int))(hx:∀ nd,nd∈xs→nd∈decL s y)(hl:xs.length≤128){known:List (ByteArray × Bool)}(hk:cy s known) :
  ∃ known',cy s known'∧bf xs s known y=some (aK xs (fun nd=>!dU (win s) s y nd),xs,known'):=by
 unfold bf
 have key:=Me xs (fun nd=>!dU (win s) s y nd) (cy s) (aX (xs.length:Int) xs s.nodes s.ties s.horizon y.now y.times y.values)
  (fun k=>.inl k) (fun i k=>.inr (i,xs,k)) ?_ ?_ known hk
 ·obtain⟨k',hk',e⟩:=key
  rw[e]
  refine⟨k',hk',?_⟩
  simp only[obnd]
  by_cases h0:0≤aK xs (fun nd=>!dU (win s) s y nd)
  ·rw[if_pos h0]
  rw[if_neg h0,(Gb h0).1]
 ·intro i hi k hk
  obtain⟨k',hk',e⟩:=PZ hs h (hx _ (List.getElem_mem hi)) hk
  refine⟨k',hk',?_⟩
  unfold aX
  try simp only
  rw[ifP,ar hi]
  simp only[obnd]
  rw[show(GShow.mk s.nodes s.ties s.horizon)=s from rfl,show(GState.mk y.now y.times y.values)=y from rfl,e]
  simp only
  rw[wr]
  cases dU (win s) s y xs[i] <;> rfl
 intro k _
 unfold aX
 try simp only
 rw[ifN]
theorem CR (hs:bL s)(h:MomR s y)(xs:List (List Int))(hx:∀ nd,nd∈xs→nd∈decL s y)(hl:xs.length≤128){known:List (ByteArray × Bool)}(hk:cy s known) :
  ∃ known',cy s known'∧bc xs s known y=some (xs.filter (fun nd=>dU (win s) s y nd),known'):=by
 obtain⟨k1,hk1,e1⟩:=EF hs h xs hx hl hk
 have hfn:xs.filter (fun nd=>dU (win s) s y nd)=xs.filter (fun nd=>!(!dU (win s) s y nd)):=by simp
 rw[hfn]
 unfold bc
 rw[e1]
 simp only[obnd]
 generalize hq':(fun nd=>!dU (win s) s y nd)=q at *
 have hq:∀ nd,q nd=!dU (win s) s y nd:=fun nd=>by rw[← hq']
 have hff:(fun nd=>!(!dU (win s) s y nd))=(fun x=>!q x):=by funext nd;rw[hq]
 rw[hff]
 by_cases h0:0≤aK xs q
 ·obtain⟨i0,hi0,he,hq0,hno⟩:=ix h0
  rw[he,ifN,wr (x:=(i0:Int)+1)]
  have htake:(xs.take i0).filter (fun x=>!q x)=xs.take i0:=by
   rw[List.filter_eq_self]
   intro x hm
   obtain⟨j,hj,rfl⟩:=List.getElem_of_mem hm
   rw[List.length_take]at hj
   rw[List.getElem_take,hno j (by omega)];rfl
  have inv:∃ r,ai (aV xs.length s.nodes s.ties s.horizon y.now y.times y.values) ((i0:Int),(i0:Int)+1,xs,k1)=some r∧(r.1=(((xs.filter (fun x=>!q x)).length:Nat):Int)∧r.2.1.length=xs.length∧r.2.1.take (xs.filter (fun x=>!q x)).length=xs.filter (fun x=>!q x)∧cy s r.2.2):=by
   refine aW (xs.length - (i0+1)) (fun (k:Nat) (s':Int × Int × List (List Int) × List (ByteArray × Bool))=>s'.2.1=((i0+1+k:Nat):Int)∧s'.1=((((xs.take (i0+1+k)).filter (fun x=>!q x)).length:Nat):Int)∧s'.2.2.1.length=xs.length ∧
    s'.2.2.1.take ((xs.take (i0+1+k)).filter (fun x=>!q x)).length=(xs.take (i0+1+k)).filter (fun x=>!q x)∧(∀ j,i0+1+k≤j→s'.2.2.1[j]?=xs[j]?)∧((xs.take (i0+1+k)).filter (fun x=>!q x)).length<i0+1+k∧cy s s'.2.2.2) _ ?_ ?_ ?_
   ·have e1:(xs.take (i0+1)).filter (fun x=>!q x)=xs.take i0:=by
     rw[ce hi0,List.filter_append,htake]
     simp[hq0]
    have hl:(xs.take i0).length=i0:=by rw[List.length_take];omega
    refine⟨by simp only;omega,?_,rfl,?_,fun _ _=>rfl,?_,hk1⟩
    ·simp only[Nat.add_zero];rw[e1,hl]
    ·simp only[Nat.add_zero];rw[e1,hl]
    simp only[Nat.add_zero];rw[e1,hl];omega
   ·rintro k ⟨v5,v6,v0,kn⟩ hk ⟨h1,h2,h3,h4,h5,h6,h7⟩
    simp only at h1 h2 h3 h4 h5 h6 h7
    have hj:i0+1+k<xs.length:=by omega
    have hg:getI v0 v6=some xs[i0+1+k]:=by
     unfold getI
     rw[h1,ifP,Int.toNat_natCast,h5 _ (Nat.le_refl _),List.getElem?_eq_getElem hj]
    obtain⟨kn',hkn',ec⟩:=PZ hs h (hx _ (List.getElem_mem hj)) h7
    left
    unfold aV
    simp only
    rw[ifP,chP,hg,wr (x:=v6+1)]
    simp only[obnd]
    rw[show(GShow.mk s.nodes s.ties s.horizon)=s from rfl,show(GState.mk y.now y.times y.values)=y from rfl,ec,← hq]
    simp only
    cases hqq:q xs[i0+1+k]
    ·have e2:(xs.take (i0+1+(k+1))).filter (fun x=>!q x)=(xs.take (i0+1+k)).filter (fun x=>!q x)++[xs[i0+1+k]]:=by
      rw[show i0+1+(k+1)=i0+1+k+1 by omega,ce hj,List.filter_append]
      simp[hqq]
     have hv5:getI v0 v5=some v0[((xs.take (i0+1+k)).filter (fun x=>!q x)).length]:=by rw[h2,ar (by omega)]
     rw[if_neg (by simp),chP,hv5,wr (x:=v5+1)]
     refine⟨_,rfl,by simp only;omega,?_,?_,?_,?_,?_,hkn'⟩
     ·simp only;rw[e2,List.length_append,h2];simp
     ·simp only[List.length_set];exact h3
     ·simp only;rw[e2,List.length_append,h2,Int.toNat_natCast]
      simp only[List.length_cons,List.length_nil,Nat.zero_add]
      rw[EE (by omega),h4]
     ·intro j hj'
      simp only
      rw[h2,Int.toNat_natCast,List.getElem?_set_ne (by omega)]
      exact h5 j (by omega)
     rw[e2,List.length_append];simp;omega
    have e2:(xs.take (i0+1+(k+1))).filter (fun x=>!q x)=(xs.take (i0+1+k)).filter (fun x=>!q x):=by
     rw[show i0+1+(k+1)=i0+1+k+1 by omega,ce hj,List.filter_append]
     simp[hqq]
    rw[if_pos rfl]
    refine⟨_,rfl,by simp only;omega,?_,h3,?_,fun j hj'=>h5 j (by omega),?_,hkn'⟩
    ·simp only;rw[e2];exact h2
    ·simp only;rw[e2];exact h4
    rw[e2];omega
   rintro⟨v5,v6,v0,kn⟩ ⟨h1,h2,h3,h4,h5,h6,h7⟩
   simp only at h1 h2 h3 h4 h7
   have hall:i0+1+(xs.length - (i0+1))=xs.length:=by omega
   rw[hall]at h1 h2 h4
   rw[List.take_length]at h2 h4
   unfold aV
   simp only
   rw[ifN]
   exact⟨_,rfl,h2,h3,h4,h7⟩
  obtain⟨⟨v5,v0,kn⟩,hr,h1,h2,h3,h4⟩:=inv
  rw[hr]
  simp only at h1 h2 h3 h4 ⊢
  have hle:=List.length_filter_le (fun x=>!q x) xs
  subst h1
  simp only[Int.toNat_natCast]
  rw[chP,chP,chP,chP,aG (by rw[zO];omega),chP,Mb (by rw[List.length_replicate];omega),h3]
  exact⟨kn,h4,rfl⟩
 obtain⟨h2,h1⟩:=Gb h0
 rw[if_pos h2,aG (Nat.le_refl _),List.take_length]
 refine⟨k1,hk1,?_⟩
 congr 2
 symm
 rw[List.filter_eq_self]
 intro x hm
 rw[List.any_eq_false]at h1
 have:=h1 x hm
 cases hqx:q x
 ·rfl
 exact absurd hqx this
theorem Pj (hs:bL s)(h:MomR s y){known:List (ByteArray × Bool)}(hk:cy s known) :
  ∃ known',cy s known'∧ke s known y=some ((decL s y).filter (dU (win s) s y),known'):=by
 obtain⟨k',hk',e⟩:=CR hs h (decL s y) (fun _ h=>h) (uO h.right y) hk
 refine⟨k',hk',?_⟩
 unfold ke
 rw[rQ hs h]
 simp only[obnd]
 rw[e]
end
def uS (lazy:Bool)(l:List (List Int))(p:List Int→Bool):Option (List Int):=if lazy=true then l.reverse.find? p else l.find? p
theorem Pk (l:List (List Int))(p:List Int→Bool)(lazy:Bool)(hl:l.length≤128) :
  nb (l.filter p) lazy=some (match uS lazy l p with|some nd=>(nd,true)|none=>([],false)):=by
 have hle:=List.length_filter_le p l
 unfold nb uS
 have e1:l.find? p=(l.filter p).head?:=(List.head?_filter).symm
 have e2:l.reverse.find? p=(l.filter p).getLast?:=by rw[← List.head?_filter,List.filter_reverse,List.head?_reverse]
 rw[e1,e2]
 generalize l.filter p=m at *
 by_cases h0:m=[]
 ·subst h0
  rw[if_pos (by simp)]
  cases lazy <;> rfl
 have hpos:0<m.length:=List.length_pos_iff.2 h0
 rw[ifN]
 cases lazy
 ·simp only[Bool.false_eq_true,if_false]
  have:getI m ((0:Nat):Int)=some m[0]:=ar hpos
  rw[show((0:Nat):Int)=0 from rfl]at this
  rw[this,List.head?_eq_getElem?,List.getElem?_eq_getElem hpos];rfl
 simp only[if_true]
 rw[wr,show(m.length:Int) - 1=((m.length - 1:Nat):Int) by omega,ar (by omega),List.getLast?_eq_getElem?,List.getElem?_eq_getElem (by omega)];rfl
end Go.Proofs.Qi
set_option maxRecDepth 100000
namespace Go.Proofs.Qi
open Go
theorem Mf (log:List ak)(hl:log.length≤1048576)(he:∀ e,e∈log→FitE e):lC log=some log:=by
 unfold lC
 have key:ai (jt log (log.length:Int)) (((0:Nat):Int),log.take 0)=some log:=by
  refine aD log.length (fun i=>((i:Int),log.take i)) ?_ ?_
  ·intro i hi
   have hf:=he _ (List.getElem_mem hi)
   unfold jt
   try simp only
   rw[ifP,ar hi]
   simp only[obnd]
   rw[iP _ hf.ties,iP _ hf.nodes,iP _ hf.values]
   simp only
   rw[aG (by rw[List.length_take];omega),aG (by rw[List.length_take];omega),wr,List.take_succ_eq_append_getElem hi];rfl
  unfold jt
  try simp only
  rw[ifN,List.take_length]
 simp only[Int.natCast_zero,List.take_zero]at key
 rw[key];rfl
theorem Ab (d:GDesk)(h:FitD d):iV d=some d:=by
 unfold iV
 rw[zR _ h.sh]
 simp only[obnd]
 rw[pn _ h.st.times h.st.values]
 simp only
 rw[Mf _ h.log h.entry]
def pmB (values:List Int):Bool:=decide (values.length=3)&&values.all (fun v=>decide (v=1) || decide (v=-1))
noncomputable def dB (d:GDesk)(ties values:List Int):Int:=
 if dK d=true then (if pmB values=true then (if oE d.show_ d.state=true then 2 else if rg d.show_ d.state=true then 2 else if d.show_.horizon<d.state.now then 2 else if ties∈fL d.show_ d.state then 0 else 3) else 1) else 1
def gE (values ps:List Int):List Int:=ps.map (fun p=>tm values (p - 1))
def litL (values ps:List Int):List Int:=ps.map (fun p=>p*tm values (p - 1))
noncomputable def finD (d:GDesk)(ties values nodes:List Int):GDesk:=
 ⟨d.show_,obsX (decX (endX d.show_ d.state ties) nodes) (aO d.show_ nodes) (gE values (aO d.show_ nodes)),d.lazy,d.log++[⟨d.state.now,ties,nodes,litL values (aO d.show_ nodes)⟩]⟩
noncomputable def oh (d:GDesk)(ties values:List Int)(refused:Int)(c:Option (List Int)):GDesk × List Int × Int:=
 if dB d ties values=0 then (match c with|some nd=>(finD d ties values nd,nd,0)|none=>(d,[],refused)) else (d,[],dB d ties values)
theorem oF {d:GDesk}(h:dK d=true):aH d.show_ d.state=true:=by
 unfold dK at h
 simp only[Bool.and_eq_true]at h
 exact h.1.1.1
theorem qn {d:GDesk}{ties values:List Int}(h:dB d ties values=0):dK d=true∧pmB values=true∧ties∈fL d.show_ d.state∧oE d.show_ d.state=false∧rg d.show_ d.state=false∧¬ d.show_.horizon<d.state.now:=by
 unfold dB at h
 split at h
 ·rename_i h1
  split at h
  ·rename_i h2
   split at h
   ·omega
   rename_i h3
   split at h
   ·omega
   rename_i h4
   split at h
   ·omega
   rename_i h5
   split at h
   ·rename_i h6
    exact⟨h1,h2,h6,by simpa using h3,by simpa using h4,h5⟩
   omega
  omega
 omega
theorem Pl {values:List Int}(h:pmB values=true):values.length=3∧∀ v,v∈values→v=1∨v=-1:=by
 unfold pmB at h
 rw[Bool.and_eq_true,decide_eq_true_eq,List.all_eq_true]at h
 exact⟨h.1,fun v hv=>by have:=h.2 v hv;simpa using this⟩
theorem Mg {values:List Int}(h:pmB values=true){k:Int}(h0:0≤k)(h1:k<3):tm values k=1∨tm values k=-1:=by
 obtain⟨h2,h3⟩:=Pl h
 unfold tm
 rw[List.getElem?_eq_getElem (show k.toNat<values.length by omega)]
 exact h3 _ (List.getElem_mem _)
theorem Vm {values:List Int}(h3:values.length=3):values.any (fun v=>!(decide (v=1) || decide (v=-1)))=!pmB values:=by
 unfold pmB
 rw[decide_eq_true h3,Bool.true_and,List.any_eq_not_all_not]
 simp
theorem IM (v:Int):gL v=some (!(decide (v=1) || decide (v=-1))):=by
 unfold gL
 by_cases h:v=1
 ·rw[if_pos h,decide_eq_true h];rfl
 rw[if_neg h,decide_eq_false h]
 by_cases h2:v=-1
 ·rw[decide_eq_true h2,decide_eq_false (by simpa using h2)];rfl
 rw[decide_eq_false h2,decide_eq_true h2];rfl
theorem JZ {values ps:List Int}(hv:pmB values=true)(hp:∀ p,p∈ps→1≤p∧p≤3)(hl:ps.length≤3):kQ ps (gE values ps)=some (litL values ps):=by
 unfold kQ
 have key:ai (iJ (gE values ps) ps (ps.length:Int)) (((0:Nat):Int),litL values (ps.take 0))=some (litL values ps):=by
  refine aD ps.length (fun i=>((i:Int),litL values (ps.take i))) ?_ ?_
  ·intro i hi
   have hb:=hp _ (List.getElem_mem hi)
   have ht:=Mg hv (k:=ps[i] - 1) (by omega) (by omega)
   have hl1:(litL values (ps.take i)).length≤3:=by unfold litL;rw[List.length_map,List.length_take];omega
   have hsl:(gE values ps).length=ps.length:=by unfold gE;simp
   unfold iJ
   try simp only
   rw[ifP,ar hi,ar (show i<(gE values ps).length by omega)]
   simp only[obnd]
   have hs:(gE values ps)[i]'(by omega)=tm values (ps[i] - 1):=by unfold gE;simp
   rw[hs,chP,chP,wr (x:=(i:Int)+1),wr (x:=ps[i]*tm values (ps[i] - 1)) (by rcases ht with h|h <;> rw[h] <;> omega) (by rcases ht with h|h <;> rw[h] <;> omega)]
   congr 3
   unfold litL
   rw[List.take_succ_eq_append_getElem hi,List.map_append];rfl
  unfold iJ
  try simp only
  rw[ifN,List.take_length]
 simp only[Int.natCast_zero,List.take_zero]at key
 rw[show litL values []=[] from rfl]at key
 rw[key];rfl
theorem CS {values ps:List Int}(hv:pmB values=true)(hp:∀ p,p∈ps→1≤p∧p≤3):(gE values ps).length=ps.length∧∀ v,v∈gE values ps→v=1∨v=-1:=by
 refine⟨by unfold gE;simp,fun v hm=>?_⟩
 unfold gE at hm
 rw[List.mem_map]at hm
 obtain⟨p,hpm,rfl⟩:=hm
 have:=hp p hpm
 exact Mg hv (by omega) (by omega)
theorem wJ (d:GDesk)(ties values:List Int)(refused:Int)(d':GDesk)(hf:FitD d)(ht:ties.length≤1048576)(hvl:values.length≤1048576)(c:Option (List Int))(hmem:∀ nd,c=some nd→nd∈decL d.show_ (endX d.show_ d.state ties))
  (hc:dB d ties values=0→∃ r,iI d.show_ [] (endX d.show_ d.state ties) d'=some r∧r.2.1=c.isSome∧∀ nd,c=some nd→r.1=nd) :
  bJ d ties values refused d'=some (oh d ties values refused c):=by
 have hs:=hf.sh.small
 have hlog:=hf.log
 have hg0:=@qn d ties values
 unfold oh
 unfold bJ
 rw[Ab d hf]
 simp only[obnd]
 rw[zW d hf]
 simp only
 cases hd:dK d
 ·have e:dB d ties values=1:=by unfold dB;rw[hd];rfl
  rw[e];rfl
 have hx:=oF hd
 have hR:=dL hx
 simp only[if_true]
 by_cases h3:values.length=3
 rotate_left
 ·have e:dB d ties values=1:=by unfold dB pmB;rw[hd,decide_eq_false h3];rfl
  rw[ifN,e];rfl
 rw[ifP,lZ values _ (fun v=>!(decide (v=1) || decide (v=-1))) (by unfold Cnt;omega) (fun v _=>IM v),Vm h3]
 simp only
 cases hp:pmB values
 ·have e:dB d ties values=1:=by unfold dB;rw[hd,hp];rfl
  rw[e];rfl
 simp only[Bool.not_true,Bool.false_eq_true,if_false]
 rw[zX hs hR]
 simp only
 cases hb:oE d.show_ d.state
 rotate_left
 ·have e:dB d ties values=2:=by unfold dB;rw[hd,hp,hb];rfl
  rw[e];rfl
 simp only[Bool.false_eq_true,if_false]
 rw[uQ hs hR]
 simp only
 cases ho:rg d.show_ d.state
 rotate_left
 ·have e:dB d ties values=2:=by unfold dB;rw[hd,hp,hb,ho];rfl
  rw[e];rfl
 simp only[Bool.false_eq_true,if_false]
 by_cases hh:d.show_.horizon<d.state.now
 ·have e:dB d ties values=2:=by unfold dB;rw[hd,hp,hb,ho,if_pos hh];rfl
  rw[if_pos hh,e];rfl
 rw[if_neg hh,uN hx]
 simp only
 have hel:=wB (x:=d.state) hR.ok
 rw[As _ _ (by unfold Cnt;omega) (by unfold Cnt;omega)]
 simp only
 by_cases hm:ties∈fL d.show_ d.state
 rotate_left
 ·have e:dB d ties values=3:=by unfold dB;rw[hd,hp,hb,ho,if_neg hh,if_neg hm];rfl
  rw[decide_eq_false hm,e];rfl
 have e:dB d ties values=0:=by unfold dB;rw[hd,hp,hb,ho,if_neg hh,if_pos hm];rfl
 obtain⟨a1,a2,a3⟩:=pQ hR.ok hm
 have hM:=ro hx hm
 have hv3:=(cw hR.val).1
 rw[decide_eq_true hm,if_pos rfl,Au hx (by omega) (by omega) a3]
 simp only
 unfold jQ
 simp only
 obtain⟨r,e1,e2,e3⟩:=hc e
 rw[e1,e]
 simp only[if_true]
 rw[e2]
 cases c with
 | none=>rfl
 | some nd=>
  have hn:=hmem nd rfl
  obtain⟨n1,n2,n3⟩:=lP hM.right hn
  have hps:∀ p,p∈aO d.show_ nd→1≤p∧p≤3:=fun p hp=>⟨(eC hp).1,(eC hp).2.1⟩
  have hpl:=sC d.show_ nd
  simp only[Option.isSome_some,if_true]
  rw[e3 nd rfl,uP hM n1 n2 n3]
  simp only
  have key:ai (bb ties values nd (((aO d.show_ nd).length:Nat):Int) d.show_.horizon d.state.now d.lazy d.state.now d.state.times d.state.values (decX (endX d.show_ d.state ties) nd).now d.show_.nodes d.show_.ties d.state.times d.state.values d.log (decX (endX d.show_ d.state ties) nd).times (decX (endX d.show_ d.state ties) nd).values (aO d.show_ nd)) (((0:Nat):Int),gE values ((aO d.show_ nd).take 0))=some (gE values (aO d.show_ nd)):=by
   refine aD (aO d.show_ nd).length (fun i=>((i:Int),gE values ((aO d.show_ nd).take i))) ?_ ?_
   ·intro i hi
    have hb:=hps _ (List.getElem_mem hi)
    have hsl:(gE values ((aO d.show_ nd).take i)).length≤3:=by unfold gE;rw[List.length_map,List.length_take];omega
    unfold bb
    try simp only
    rw[ifP,ar hi]
    simp only[obnd]
    rw[wr (x:=(aO d.show_ nd)[i] - 1),bz (by omega) (by omega)]
    simp only
    rw[chP,chP,wr]
    congr 3
    unfold gE
    rw[List.take_succ_eq_append_getElem hi,List.map_append];rfl
   unfold bb
   try simp only
   rw[ifN,List.take_length]
  simp only[Int.natCast_zero,List.take_zero]at key
  rw[show gE values []=[] from rfl]at key
  rw[key]
  simp only
  obtain⟨s1,s2⟩:=CS hp hps
  have hnow:=hR.now
  have hhor:=hR.right.hor
  have hln:=hM.len
  have h7:=hM.right.nodes
  rw[(sY (decX (endX d.show_ d.state ties) nd) (aO d.show_ nd) (gE values (aO d.show_ nd)) (by show 0≤d.state.now∧d.state.now≤1000;omega) (by show(cO _ _ _ _).length≤_;rw[gi];omega) hv3 hps s1 (by omega)).1]
  simp only
  rw[iP _ ht,iP _ (by omega),JZ hp hps hpl]
  simp only
  rw[chP,chP]
  rfl
end Go.Proofs.Qi
set_option maxRecDepth 100000
namespace Go.Proofs.Qi
open Go
end Go.Proofs.Qi
set_option maxRecDepth 100000
namespace Go.Proofs.Qi
open Go
noncomputable def CT (d:GDesk)(ties:List Int):Option (List Int):=uS d.lazy (decL d.show_ (endX d.show_ d.state ties)) (dU (win d.show_) d.show_ (endX d.show_ d.state ties))
theorem sD {lazy:Bool}{l:List (List Int)}{p:List Int→Bool}{nd:List Int}(h:uS lazy l p=some nd):nd∈l∧p nd=true:=by
 unfold uS at h
 split at h
 ·exact⟨by simpa using List.mem_of_find?_eq_some h,List.find?_some h⟩
 exact⟨List.mem_of_find?_eq_some h,List.find?_some h⟩
theorem Gz (d:GDesk)(ties values:List Int)(hf:FitD d)(ht:ties.length≤1048576)(hv:values.length≤1048576):kR d ties values=some (oh d ties values 5 (CT d ties)):=by
 have hs:=hf.sh.small
 unfold kR
 rw[wJ d ties values 5 d hf ht hv (CT d ties) (fun nd h=>(sD h).1) ?_]
 ·rfl
 intro h0
 obtain⟨g1,_,g3,_⟩:=qn h0
 have hM:=ro (oF g1) g3
 have hl:=uO hM.right (endX d.show_ d.state ties)
 unfold iI CT
 cases hz:d.lazy
 ·simp only[Bool.false_eq_true,if_false]
  obtain⟨k',_,e⟩:=CQ hs (y:=endX d.show_ d.state ties) (ED hs _ (by have:=hM.now;omega)) hM (wI d.show_)
  unfold nI
  rw[e]
  simp only[obnd]
  refine⟨_,rfl,?_⟩
  unfold uS
  simp only[Bool.false_eq_true,if_false]
  cases(decL d.show_ (endX d.show_ d.state ties)).find? (dU (win d.show_) d.show_ (endX d.show_ d.state ties)) with
  | none=>exact⟨rfl,fun nd h=>by cases h⟩
  | some nd=>exact⟨rfl,fun nd' h=>by cases h;rfl⟩
 simp only[if_true]
 obtain⟨k',_,e⟩:=Pj hs hM (wI d.show_)
 rw[e]
 simp only[obnd]
 rw[Pk _ _ _ hl]
 simp only
 refine⟨_,rfl,?_⟩
 cases uS true (decL d.show_ (endX d.show_ d.state ties)) (dU (win d.show_) d.show_ (endX d.show_ d.state ties)) with
 | none=>exact⟨rfl,fun nd h=>by cases h⟩
 | some nd=>exact⟨rfl,fun nd' h=>by cases h;rfl⟩
theorem NC (d:GDesk)(ties values:List Int)(refused:Int)(c:Option (List Int))(hf:FitD d)(ht:ties.length≤1048576)(hc:dB d ties values=0→∀ nd,c=some nd→nd∈decL d.show_ (endX d.show_ d.state ties)) :
  FitD (oh d ties values refused c).1∧(oh d ties values refused c).2.1.length≤7:=by
 unfold oh
 by_cases h0:dB d ties values=0
 ·rw[if_pos h0]
  cases c with
  | none=>exact⟨hf,by simp⟩
  | some nd=>
   obtain⟨g1,hp,g3,_⟩:=qn h0
   have hx:=oF g1
   have hR:=dL hx
   have hM:=ro hx g3
   have hnd:=hc h0 nd rfl
   obtain⟨n1,n2,n3⟩:=lP hM.right hnd
   have hlog:(d.log.length:Int)=d.state.now:=by
    unfold dK at g1
    simp only[Bool.and_eq_true,decide_eq_true_eq]at g1
    exact g1.1.1.2
   have hnow:=hR.now
   have hhor:=hR.right.hor
   have hln:=hM.len
   have h7:=hM.right.nodes
   have hv3:=(cw hR.val).1
   have hpl:=sC d.show_ nd
   refine⟨⟨hf.sh,⟨?_,?_⟩,?_,?_⟩,n2⟩
   ·show(cO _ _ _ _).length≤_
    rw[gi];omega
   ·show(setV _ _ _ _).length≤_
    rw[oq]
    show d.state.values.length≤_
    omega
   ·show(d.log++[_]).length≤_
    rw[List.length_append];simp;omega
   intro e he
   have he':e∈d.log++[⟨d.state.now,ties,nd,litL values (aO d.show_ nd)⟩]:=he
   rw[List.mem_append,List.mem_singleton]at he'
   rcases he' with he'|rfl
   ·exact hf.entry e he'
   exact⟨ht,by show nd.length≤_;omega,by show(litL _ _).length≤_;unfold litL;rw[List.length_map];omega⟩
 rw[if_neg h0]
 exact⟨hf,by simp⟩
end Go.Proofs.Qi
set_option maxRecDepth 100000
namespace Go.Proofs.Qi
open Go
end Go.Proofs.Qi
set_option maxRecDepth 100000
set_option maxHeartbeats 1000000
namespace Go.Proofs.Qi
open Go
noncomputable def bK (c:GChoice)(d:GDesk):GDesk × List Int × Int:=oh d (endL d.show_ d.state c) c.values 5 (CT d (endL d.show_ d.state c))
noncomputable def runF (c:GChoice):Nat→GDesk→GDesk × Int
 | 0,d=>(d,0)
 | n+1,d=>if (bK c d).2.2=0 then runF c n (bK c d).1 else (d,(bK c d).2.2)
noncomputable def runR (d:GDesk)(c:GChoice):GDesk × Int:=if dK d=true then (if ck d.show_ c=true then runF c 13 d else (d,1)) else (d,1)
def tupD (d:GDesk):Int × Int × Bool × (List GNode) × (List GTie) × (List Int) × (List Int) × (List ak):=(d.show_.horizon,d.state.now,d.lazy,d.show_.nodes,d.show_.ties,d.state.times,d.state.values,d.log)
theorem GA {s:GShow}{c:GChoice}(h:ck s c=true):c.values.length=3:=by
 unfold ck at h
 simp only[Bool.and_eq_true,decide_eq_true_eq]at h
 exact h.1.1.2
theorem Mh {d:GDesk}{ties values:List Int}{c:Option (List Int)}(h:(oh d ties values 5 c).2.2=0):dB d ties values=0∧∃ nd,c=some nd∧oh d ties values 5 c=(finD d ties values nd,nd,0):=by
 unfold oh at h ⊢
 by_cases h0:dB d ties values=0
 ·rw[if_pos h0]at h ⊢
  cases c with
  | none=>exact absurd h (by simp)
  | some nd=>exact⟨h0,nd,rfl,rfl⟩
 rw[if_neg h0]at h
 exact absurd h h0
theorem ND {d:GDesk}{ties values nd:List Int}(h0:dB d ties values=0)(hn:nd∈decL d.show_ (endX d.show_ d.state ties)):aH d.show_ (finD d ties values nd).state=true:=by
 obtain⟨g1,hp,g3,_⟩:=qn h0
 have hM:=ro (oF g1) g3
 obtain⟨_,_,hm⟩:=lP hM.right hn
 obtain⟨s1,s2⟩:=CS (values:=values) (ps:=aO d.show_ nd) hp (fun p h=>⟨(eC h).1,(eC h).2.1⟩)
 exact CM hM hm s1 s2
theorem IP {c:GChoice}{d:GDesk}(hf:FitD d)(h:(bK c d).2.2=0) :
  FitD (bK c d).1∧(bK c d).1.show_=d.show_∧aH d.show_ (bK c d).1.state=true∧(bK c d).1.state.now=d.state.now+1:=by
 unfold bK at h ⊢
 obtain⟨h0,nd,hc,he⟩:=Mh h
 have hl:=IA d.show_ d.state c hf.sh.ties
 have hnd:nd∈decL d.show_ (endX d.show_ d.state (endL d.show_ d.state c)):=(sD hc).1
 have hfit:=(NC d (endL d.show_ d.state c) c.values 5 (CT d (endL d.show_ d.state c)) hf hl (fun _ nd h=>(sD h).1)).1
 rw[he]at hfit ⊢
 exact⟨hfit,rfl,ND h0 hnd,rfl⟩
theorem Rd (c:GChoice)(body:(Int × Int × Bool × (List GNode) × (List GTie) × (List Int) × (List Int) × (List ak))→Option (Step (Int × Int × Bool × (List GNode) × (List GTie) × (List Int) × (List Int) × (List ak)) (GDesk × Int)))
  (hb:∀ d,FitD d→aH d.show_ d.state=true→ck d.show_ c=true→body (tupD d)=some (if (bK c d).2.2=0 then .next (tupD (bK c d).1) else .done (d,(bK c d).2.2))) :
  ∀ (n:Nat) (d:GDesk),FitD d→aH d.show_ d.state=true→ck d.show_ c=true→12<(n:Int)+d.state.now→ai body (tupD d)=some (runF c n d):=by
 intro n
 induction n with
 | zero=>
  intro d hf hx hc h
  have:=(dL hx).now
  have:=(dL hx).right.hor
  omega
 | succ n ih=>
  intro d hf hx hc h
  rw[aY,hb d hf hx hc]
  show _=some (if (bK c d).2.2=0 then runF c n (bK c d).1 else (d,(bK c d).2.2))
  by_cases h0:(bK c d).2.2=0
  ·obtain⟨f1,f2,f3,f4⟩:=IP hf h0
   rw[if_pos h0,if_pos h0]
   exact ih _ f1 (by rw[f2];exact f3) (by rw[f2];exact hc) (by rw[f4];omega)
  rw[if_neg h0,if_neg h0]
theorem IQ (d:GDesk)(c:GChoice)(hf:FitD d):lG d c=some (runR d c):=by
 unfold lG runR
 rw[Ab d hf]
 simp only[obnd]
 rw[zW d hf]
 simp only
 cases hD:dK d
 ·rw[if_neg (by simp),if_neg (by simp)]
 have hx:=oF hD
 rw[if_pos rfl,if_pos rfl,sX d.show_ c hf.sh.small (dL hx).right hf.sh.ties]
 simp only
 cases hC:ck d.show_ c
 ·rw[if_neg (by simp),if_neg (by simp)]
 rw[if_pos rfl,if_pos rfl]
 have hn:=(dL hx).now
 have key:=Rd c (lj c.lengths c.values) (by
  intro d hf hx hc
  have hl:=IA d.show_ d.state c hf.sh.ties
  have hv:=GA hc
  unfold lj tupD
  simp only
  rw[show(GShow.mk d.show_.nodes d.show_.ties d.show_.horizon)=d.show_ from rfl,show(GState.mk d.state.now d.state.times d.state.values)=d.state from rfl,show(GChoice.mk c.lengths c.values)=c from rfl,show(GDesk.mk d.show_ d.state d.lazy d.log)=d from rfl]
  rw[Et d.show_ d.state c hf.sh hf.st]
  simp only[obnd]
  rw[Gz d _ c.values hf hl (by omega)]
  simp only
  show(if (bK c d).2.2=0 then _ else _)=_
  by_cases h0:(bK c d).2.2=0
  ·rw[if_pos h0,if_pos h0];rfl
  rw[if_neg h0,if_neg h0];rfl) 13 d hf hx hC (by omega)
 unfold tupD at key
 rw[key]
theorem IR (c:GChoice):∀ (n:Nat) (d:GDesk),FitD d→FitD (runF c n d).1∧(runF c n d).1.show_=d.show_
 | 0,d,hf=>⟨hf,rfl⟩
 | n+1,d,hf=>by
  show FitD (if (bK c d).2.2=0 then runF c n (bK c d).1 else (d,(bK c d).2.2)).1∧(if (bK c d).2.2=0 then runF c n (bK c d).1 else (d,(bK c d).2.2)).1.show_=d.show_
  by_cases h0:(bK c d).2.2=0
  ·obtain⟨f1,f2,f3,f4⟩:=IP hf h0
   rw[if_pos h0]
   obtain⟨g1,g2⟩:=IR c n _ f1
   exact⟨g1,by rw[g2,f2]⟩
  rw[if_neg h0]
  exact⟨hf,rfl⟩
theorem Pm (d:GDesk)(c:GChoice)(hf:FitD d):FitD (runR d c).1∧(runR d c).1.show_=d.show_:=by
 unfold runR
 split
 ·split
  ·exact IR c 13 d hf
  exact⟨hf,rfl⟩
 exact⟨hf,rfl⟩
end Go.Proofs.Qi
set_option maxRecDepth 100000
set_option maxHeartbeats 1000000
namespace Go.Proofs.Qi
open Go
theorem Pn {s:GShow}(z:Bool)(h:ay s=true):(nw s z).2=true:=by
 unfold nw;rw[if_pos h]
end Go.Proofs.Qi
set_option maxRecDepth 100000
set_option maxHeartbeats 1000000
namespace Go.Proofs.Qi
open Go
theorem lit1 {p v:Int}(h1:1≤p)(h2:p≤3)(hv:v=1∨v=-1):pr (p*v)=p∧sgn (p*v)=v∧p*v≠0∧-3≤p*v∧p*v≤3:=by
 have:p=1∨p=2∨p=3:=by omega
 rcases this with rfl|rfl|rfl <;> rcases hv with rfl|rfl <;> decide
theorem CU {values ps:List Int}(hv:pmB values=true)(hp:∀ p,p∈ps→1≤p∧p≤3){p:Int}(h:p∈ps):pr (p*tm values (p - 1))=p∧sgn (p*tm values (p - 1))=tm values (p - 1)∧p*tm values (p - 1)≠0∧-3≤p*tm values (p - 1)∧p*tm values (p - 1)≤3:=by
 have h1:=hp p h
 exact lit1 h1.1 h1.2 (Mg hv (by omega) (by omega))
theorem Vn {values ps:List Int}(hv:pmB values=true)(hp:∀ p,p∈ps→1≤p∧p≤3):(litL values ps).map pr=ps:=by
 unfold litL
 rw[List.map_map]
 conv=>rhs;rw[← List.map_id ps]
 exact List.map_congr_left (fun p h=>(CU hv hp h).1)
theorem Re {values ps:List Int}(hv:pmB values=true)(hp:∀ p,p∈ps→1≤p∧p≤3):(litL values ps).map sgn=gE values ps:=by
 unfold litL gE
 rw[List.map_map]
 exact List.map_congr_left (fun p h=>(CU hv hp h).2.1)
theorem NE {values ps:List Int}(hv:pmB values=true)(hp:∀ p,p∈ps→1≤p∧p≤3)(ha:Asc ps):bo (litL values ps)=true:=by
 have hlen:(litL values ps).length=ps.length:=List.length_map _
 have hget:∀ i,i<ps.length→(litL values ps).getD i 0=ps.getD i 0*tm values (ps.getD i 0 - 1):=by
  intro i hi
  unfold litL
  simp[hi]
 have hmem:∀ i,i<ps.length→ps.getD i 0∈ps:=by
  intro i hi
  rw[show ps.getD i 0=ps[i] by simp[hi]]
  exact List.getElem_mem hi
 unfold bo
 refine decide_eq_true ?_
 intro i hi
 rw[hlen]at hi
 unfold labP
 refine decide_eq_true ?_
 rw[hget i hi]
 obtain⟨a1,a2,a3,a4,a5⟩:=CU hv hp (hmem i hi)
 refine⟨a3,a4,a5,?_⟩
 intro h0
 rw[hget (i - 1) (by omega),a1,(CU hv hp (hmem (i - 1) (by omega))).1]
 exact II ha hi h0
theorem Ac {s:GShow}(e:ak):∀ (log:List ak) (x:GState),(aZ s x log).2=true→(cG s (aZ s x log).1 e).2=true→aZ s x (log++[e])=((cG s (aZ s x log).1 e).1,true)
 | [],x,_,h=>by
  show(if (cG s x e).2=true then aZ s (cG s x e).1 [] else (lI,false))=_
  have h':(cG s x e).2=true:=h
  rw[if_pos h'];rfl
 | f::r,x,h,g=>by
  have hc:∀ l,aZ s x (f::l)=if (cG s x f).2=true then aZ s (cG s x f).1 l else (lI,false):=fun _=>rfl
  rw[hc]at h g
  rw[List.cons_append,hc,hc]
  by_cases he:(cG s x f).2=true
  ·rw[if_pos he]at h g
   rw[if_pos he,if_pos he]
   exact Ac e r _ h g
  rw[if_neg he]at h;cases h
theorem Po {d:GDesk}{ties values nd:List Int}(h0:dB d ties values=0)(hn:nd∈decL d.show_ (endX d.show_ d.state ties)):dK (finD d ties values nd)=true:=by
 obtain⟨g1,hp,g3,_⟩:=qn h0
 have hps:∀ p,p∈aO d.show_ nd→1≤p∧p≤3:=fun p h=>⟨(eC h).1,(eC h).2.1⟩
 have hst:=ND (values:=values) h0 hn
 have hg:=g1
 unfold dK at hg
 simp only[Bool.and_eq_true,decide_eq_true_eq]at hg
 obtain⟨⟨⟨e1,e2⟩,e3⟩,e4⟩:=hg
 have hstep:cG d.show_ d.state ⟨d.state.now,ties,nd,litL values (aO d.show_ nd)⟩=((finD d ties values nd).state,true):=by
  unfold cG
  rw[if_pos ⟨rfl,g3,NE hp hps (wG _ _),hn,Vn hp hps⟩]
  simp only
  rw[Re hp hps]
  rfl
 have hrep:cf d.show_ (d.log++[⟨d.state.now,ties,nd,litL values (aO d.show_ nd)⟩])=((finD d ties values nd).state,true):=by
  unfold cf at e3 e4 ⊢
  by_cases hA:ay d.show_=true
  ·rw[if_pos hA]at e3 e4 ⊢
   rw[Ac _ d.log _ e3 (by rw[e4,hstep]),e4,hstep]
  rw[if_neg hA]at e3;cases e3
 unfold dK
 simp only[Bool.and_eq_true,decide_eq_true_eq]
 refine⟨⟨⟨hst,?_⟩,?_⟩,?_⟩
 ·show(((d.log++[_]).length:Nat):Int)=d.state.now+1
  rw[List.length_append]
  simp only[List.length_cons,List.length_nil]
  omega
 ·show(cf d.show_ (d.log++[_])).2=true
  rw[hrep]
 show(cf d.show_ (d.log++[_])).1=_
 rw[hrep]
theorem NF {d:GDesk}{ties values:List Int}{refused:Int}{c:Option (List Int)}(hd:dK d=true)(hc:∀ nd,c=some nd→nd∈decL d.show_ (endX d.show_ d.state ties)):dK (oh d ties values refused c).1=true:=by
 unfold oh
 by_cases h0:dB d ties values=0
 ·rw[if_pos h0]
  cases c with
  | none=>exact hd
  | some nd=>exact Po h0 (hc nd rfl)
 rw[if_neg h0];exact hd
theorem Gc (c:GChoice):∀ (n:Nat) (d:GDesk),dK d=true→dK (runF c n d).1=true
 | 0,d,h=>h
 | n+1,d,h=>by
  show dK (if (bK c d).2.2=0 then runF c n (bK c d).1 else (d,(bK c d).2.2)).1=true
  split
  ·refine Gc c n _ ?_
   unfold bK
   exact NF h (fun nd hn=>(sD hn).1)
  exact h
theorem NG {d:GDesk}(c:GChoice)(h:dK d=true):dK (runR d c).1=true:=by
 unfold runR
 rw[if_pos h]
 split
 ·exact Gc c 13 d h
 exact h
theorem Pp {s:GShow}(z:Bool)(h:ay s=true):dK (nw s z).1=true:=by
 unfold nw
 rw[if_pos h]
 unfold dK
 simp only[Bool.and_eq_true,decide_eq_true_eq]
 refine⟨⟨⟨pR h,rfl⟩,?_⟩,?_⟩
 ·unfold cf;rw[if_pos h];rfl
 unfold cf;rw[if_pos h];rfl
end Go.Proofs.Qi
set_option maxRecDepth 100000
set_option maxHeartbeats 1000000
namespace Go.Proofs.Qi
open Go
theorem Gd {ns:List GNode}{ts:List GTie}{z:Int}(hA:fJ ⟨ns,[],0⟩=true)(hW:eW ⟨ns,[],0⟩=true)(ht:∀ i (hi:i<ts.length),tieB ⟨ns,ts,z⟩ ts[i]=true∧mG ⟨ns,ts,z⟩ i ts[i]=true)(h14:ts.length≤14)(hz:1≤z∧z≤10):ay ⟨ns,ts,z⟩=true:=by
 unfold ay
 simp only[Bool.and_eq_true,decide_eq_true_eq]
 refine⟨⟨⟨⟨hA,?_⟩,h14⟩,hz⟩,hW⟩
 intro i hi
 rw[rq hi,Bool.and_eq_true]
 exact ht i hi
def brN:List GNode:=[(GNode.mk (ByteArray.mk #[103,111]) ([]) 0),(GNode.mk (ByteArray.mk #[97]) ([]) 1),(GNode.mk (ByteArray.mk #[98]) ([1]) 0),(GNode.mk (ByteArray.mk #[99]) ([(-1)]) 0)]
def brM:List GNode:=brN++([(GNode.mk (ByteArray.mk #[100]) ([1]) 0)])
theorem WO:fJ ⟨brN,[],0⟩=true:=by decide +kernel
theorem WP:fJ ⟨brM,[],0⟩=true:=by decide +kernel
theorem WQ:eW ⟨brN,[],0⟩=true:=by decide +kernel
theorem WR:eW ⟨brM,[],0⟩=true:=by decide +kernel
structure BrT (t:GTie):Prop where
 f0:0≤t.from_
 f1:t.from_<4
 t0:0≤t.to
 t1:t.to<4
 ne:t.from_≠t.to
 lo:-20≤t.low
 hi:t.high≤20
 lh:t.low≤t.high
 fr:t.free=false
theorem BrT.b {t:GTie}(h:BrT t){ns:List GNode}{ts:List GTie}{z:Int}(hn:4≤ns.length):tieB ⟨ns,ts,z⟩ t=true:=by
 have h1:=h.f1
 have h2:=h.t1
 unfold tieB
 rw[decide_eq_true_eq]
 exact⟨⟨h.f0,by show t.from_<(ns.length:Int);omega⟩,⟨h.t0,by show t.to<(ns.length:Int);omega⟩,h.ne,h.lo,h.hi,h.lh⟩
theorem BrT.f {t:GTie}(h:BrT t){s:GShow}{i:Nat}:mG s i t=true:=by
 unfold mG
 rw[h.fr];rfl
theorem IS {c:GL01Cur}(hc:Cur c):∃ r,jZ c=some r∧ay r.1=true∧FitS r.1∧Cur r.2:=by
 unfold jZ
 obtain⟨r1,e,a0,a1,hc⟩:=bp hc 3 (by omega)
 have a1:=a1 (by omega)
 rw[e];simp only[obnd]
 obtain⟨r2,e,b0,b1,hc⟩:=bp hc 2 (by omega)
 have b1:=b1 (by omega)
 rw[e];simp only
 obtain⟨r3,e,d0,d1,hc⟩:=bp hc 3 (by omega)
 have d1:=d1 (by omega)
 rw[e];simp only
 rw[wr (x:=4+r1.1),wr (x:=r2.1+r3.1)]
 have key:∃ q,ai (gH (4+r1.1) brN) (2,[(GTie.mk 0 1 r2.1 (r2.1+r3.1) false)],r3.2.b,r3.2.i,r3.2.h)=some q∧(∀ t,t∈q.1→BrT t)∧q.1.length≤3∧Cur ⟨q.2.1,q.2.2.1,q.2.2.2⟩:=by
  refine aW 2 (fun i st=>st.1=2+(i:Int)∧(∀ t,t∈st.2.1→BrT t)∧st.2.1.length≤1+i∧Cur ⟨st.2.2.1,st.2.2.2.1,st.2.2.2.2⟩) _ ?_ ?_ ?_
  ·refine⟨by simp,?_,by simp,hc⟩
   intro t ht
   rw[List.mem_singleton]at ht
   subst ht
   exact⟨by simp only;omega,by simp only;omega,by simp only;omega,by simp only;omega,by simp only;omega,by simp only;omega,by simp only;omega,by simp only;omega,rfl⟩
  ·rintro i ⟨k,ts,b,j,d⟩ hi ⟨hk,hp,hl,hcu⟩
   simp only at hk hp hl hcu
   subst hk
   unfold gH
   simp only
   rw[ifP]
   obtain⟨r7,e,f0,f1,hcu⟩:=bp hcu 3 (by omega)
   have f1:=f1 (by omega)
   rw[e];simp only[obnd]
   obtain⟨r8,e,g0,g1,hcu⟩:=bp hcu 2 (by omega)
   have g1:=g1 (by omega)
   rw[e];simp only
   obtain⟨r9,e,k0,k1,hcu⟩:=bp hcu 3 (by omega)
   have k1:=k1 (by omega)
   rw[e];simp only
   rw[chP,chP,wr (x:=2+(i:Int)+1),wr (x:=r7.1+1),wr (x:=r7.1+1+r9.1)]
   refine .inl ⟨_,rfl,?_,?_,?_,hcu⟩
   ·simp only;omega
   ·intro t ht
    rw[List.mem_append,List.mem_singleton]at ht
    rcases ht with ht|rfl
    ·exact hp t ht
    exact⟨by simp only;omega,by simp only;omega,by simp only;omega,by simp only;omega,by simp only;omega,by simp only;omega,by simp only;omega,by simp only;omega,rfl⟩
   simp only[List.length_append,List.length_singleton];omega
  rintro⟨k,ts,b,j,d⟩ ⟨hk,hp,hl,hcu⟩
  simp only at hk hp hl hcu
  subst hk
  unfold gH
  simp only
  rw[ifN]
  exact⟨_,rfl,hp,by simp only;omega,hcu⟩
 obtain⟨q,e,hp,hl,hcu⟩:=key
 unfold brN at e
 rw[e];simp only
 obtain⟨r11,e,hcu⟩:=uK hcu 2 (by omega)
 rw[e];simp only
 by_cases h1:r11.1=true
 ·rw[if_pos h1]
  obtain⟨r12,e,g0,g1,hcu⟩:=bp hcu 2 (by omega)
  have g1:=g1 (by omega)
  rw[e];simp only
  rw[aG (by decide),aG (by decide)]
  obtain⟨r13,e,k0,k1,hcu⟩:=bp hcu 2 (by omega)
  have k1:=k1 (by omega)
  rw[e];simp only
  rw[chP,chP,wr (x:=1+r12.1),wr (x:=1+r12.1+r13.1)]
  refine⟨_,rfl,?_,?_,hcu⟩
  ·refine Gd (ns:=brM) WP WR ?_ (by simp only[List.length_append,List.length_singleton];omega) (by omega)
   intro i hi
   rw[List.length_append,List.length_singleton]at hi
   by_cases hi':i<q.1.length
   ·rw[List.getElem_append_left hi']
    have h:=hp _ (List.getElem_mem hi')
    exact⟨h.b (by decide),h.f⟩
   have hie:i=q.1.length:=by omega
   subst hie
   rw[List.getElem_append_right (Nat.le_refl _)]
   simp only[Nat.sub_self,List.getElem_cons_zero]
   constructor
   ·unfold tieB
    rw[decide_eq_true_eq]
    refine⟨⟨by simp only;omega,(by decide:(2:Int)<(brM.length:Int))⟩,⟨by simp only;omega,(by decide:(4:Int)<(brM.length:Int))⟩,by simp only;omega,by simp only;omega,by simp only;omega,by simp only;omega⟩
   unfold mG
   simp only[Bool.not_true,Bool.false_or,Bool.and_eq_true,decide_eq_true_eq]
   refine⟨⟨by omega,by decide⟩,?_⟩
   rw[Bool.not_eq_true',List.any_eq_false]
   intro u hu hx
   rw[List.take_append_of_le_length (Nat.le_refl _),List.take_length]at hu
   rw[(hp u hu).fr]at hx
   simp at hx
  refine⟨(by decide:brM.length≤1048576),by simp only[List.length_append,List.length_singleton];omega,?_⟩
  intro n hn
  have:∀ n,n∈brM→FitN n:=by
   intro n hn
   unfold brM brN at hn
   simp only[List.mem_append,List.mem_cons,List.not_mem_nil,or_false]at hn
   rcases hn with (rfl|rfl|rfl|rfl)|rfl <;> exact⟨by decide,by decide⟩
  exact this n hn
 rw[if_neg h1]
 refine⟨_,rfl,?_,?_,hcu⟩
 ·refine Gd (ns:=brN) WO WQ ?_ (by omega) (by omega)
  intro i hi
  have h:=hp _ (List.getElem_mem hi)
  exact⟨h.b (by decide),h.f⟩
 refine⟨(by decide:brN.length≤1048576),by show q.1.length≤_;omega,?_⟩
 intro n hn
 have:∀ n,n∈brN→FitN n:=by
  intro n hn
  unfold brN at hn
  simp only[List.mem_cons,List.not_mem_nil,or_false]at hn
  rcases hn with rfl|rfl|rfl|rfl <;> exact⟨by decide,by decide⟩
 exact this n hn
theorem Mi {c:GL01Cur}(hc:Cur c):∃ r,lz c=some r∧ay r.1=true∧FitS r.1∧Cur r.2:=by
 unfold lz
 obtain⟨r1,e,hc⟩:=uK hc 3 (by omega)
 rw[e];simp only[obnd]
 by_cases h1:r1.1=true
 ·rw[if_pos h1]
  obtain⟨r,e,h1,h2,h3⟩:=IS hc
  rw[e]
  exact⟨_,rfl,h1,h2,h3⟩
 rw[if_neg h1]
 obtain⟨r,e,h1,h2,h3⟩:=JV hc
 rw[e]
 exact⟨_,rfl,h1,h2,h3⟩
theorem Ka (code:List Int)(h:code.length≤1048576):∃ s,kL code=some s∧ay s=true∧FitS s:=by
 unfold kL
 obtain⟨c,e,hc⟩:=FT code h
 rw[e];simp only[obnd]
 obtain⟨r,e,h1,h2,_⟩:=Mi hc
 rw[e]
 exact⟨_,rfl,h1,h2⟩
end Go.Proofs.Qi
set_option maxRecDepth 100000
set_option maxHeartbeats 1000000
namespace Go.Proofs.Qi
open Go
theorem Kb {s:GShow}{x:GState}(hs:bL s)(fx:FitX x)(hx:aH s x=true):mz s x=some (win s x):=by
 unfold mz
 rw[pi s x hs fx.times fx.values]
 simp only[obnd]
 rw[hx,if_pos rfl]
 unfold jQ
 simp only
 obtain⟨k,_,e⟩:=ED hs x.now (dL hx).now.1 [] x hx rfl (wI s)
 rw[e]
end Go.Proofs.Qi
set_option maxRecDepth 100000
set_option maxHeartbeats 1000000
namespace Go.Proofs.Qi
open Go
theorem Kc (code:List Int)(n:Int)(h:code.length≤1048576)(h0:0≤n)(h1:n≤1000000):∃ r,lB code n=some r∧0≤r:=by
 unfold lB
 obtain⟨c,e,hc⟩:=Ns code n h h0 h1
 rw[e]
 simp only[obnd]
 obtain⟨r,e,a0,a1,hr⟩:=re hc
 rw[e]
 simp only
 obtain⟨q,e,b0,b1,hq⟩:=re hr
 rw[e]
 refine⟨_,rfl,?_⟩
 rw[wr (x:=r.1*256),wr (x:=r.1*256+q.1)]
 omega
end Go.Proofs.Qi
set_option maxRecDepth 100000
set_option maxHeartbeats 1000000
namespace Go.Proofs.Qi
open Go
theorem yj {s:GShow}{k:Int}(h:k∈aT s):∃ i,∃ hi:i<s.ties.length,k=(i:Int)∧s.ties[i].free=true:=by
 obtain⟨i,hi,hp,rfl⟩:=jE.1 h
 unfold fF at hp
 rw[List.getElem?_eq_getElem hi]at hp
 exact⟨i,hi,rfl,hp⟩
theorem uT {s:GShow}(h:ay s=true):(aT s).length≤6:=by
 have hR:=aR h
 have hn:=hR.nodes
 have hnd:((aT s).map (fun k=>(aA s k).to)).Nodup:=by
  unfold List.Nodup
  rw[List.pairwise_map]
  refine List.Pairwise.imp_of_mem ?_ (pl _ _)
  intro a b ha hb hab he
  obtain⟨i,hi,rfl,hf⟩:=yj ha
  obtain⟨j,hj,rfl,hg⟩:=yj hb
  rw[ep hi,ep hj]at he
  have:=IE h hi hj hf hg he
  omega
 have:=sA (r:=[1,2,3,4,5,6]) hnd (fun y hy=>by
  rw[List.mem_map]at hy
  obtain⟨k,hk,rfl⟩:=hy
  obtain⟨i,hi,rfl,hf⟩:=yj hk
  rw[ep hi]
  have hT:=hR.tie _ (List.getElem_mem hi)
  have h0:=(nR h hi hf).t0
  have h1:=hT.t0
  have h2:=hT.t1
  simp only[List.mem_cons,List.not_mem_nil,or_false]
  omega)
 simpa using this
theorem IT {s:GShow}(h:ay s=true){k:Int}(hk:k∈aT s):∃ t,getI s.ties k=some t∧-20≤t.low∧t.low≤t.high∧t.high≤20:=by
 obtain⟨i,hi,rfl,_⟩:=yj hk
 have hT:=(aR h).tie _ (List.getElem_mem hi)
 exact⟨_,ar hi,hT.lo,hT.lh,hT.hi⟩
theorem uU {s:GShow}(hf:FitS s)(h:ay s=true):∃ n,ba s=some n∧1≤n∧n≤1000000000000:=by
 have h6:=uT h
 have hs:=hf.small
 unfold ba
 rw[Af s hs,h]
 simp only[obnd,if_true]
 rw[pj s hf.ties]
 change ∃ n,(obnd (ai (bY (((aT s).length:Nat):Int) s.nodes s.ties s.horizon (aT s)) (1,0)) _)=_∧_
 have key:∃ q,ai (bY (((aT s).length:Nat):Int) s.nodes s.ties s.horizon (aT s)) (1,0)=some q∧1≤q∧q≤4750104241:=by
  have hp:∀ i:Nat,i≤6→(41:Int)^i≤4750104241:=by
   intro i hi
   have:i=0∨i=1∨i=2∨i=3∨i=4∨i=5∨i=6:=by omega
   rcases this with rfl|rfl|rfl|rfl|rfl|rfl|rfl <;> decide
  refine aW (aT s).length (fun i st=>st.2=(i:Int)∧1≤st.1∧st.1≤41^i) _ ⟨rfl,by decide,by decide⟩ ?_ ?_
  ·rintro i ⟨n,v⟩ hi ⟨hk,h1,h2⟩
   simp only at hk h1 h2
   subst hk
   obtain⟨t,e,b1,b2,b3⟩:=IT h (List.getElem_mem hi)
   unfold bY
   simp only
   rw[ifP,ar hi]
   simp only[obnd]
   rw[e]
   simp only
   have hp1:=hp (i+1) (by omega)
   rw[wr (x:=t.high - t.low),wr (x:=t.high - t.low+1)]
   have hm:n*(t.high - t.low+1)≤41^i*41:=Int.mul_le_mul h2 (by omega) (by omega) (by omega)
   have hm0:1*1≤n*(t.high - t.low+1):=Int.mul_le_mul h1 (by omega) (by omega) (by omega)
   rw[Int.pow_succ]at hp1
   rw[wr (x:=n*(t.high - t.low+1)),wr (x:=(i:Int)+1)]
   refine .inl ⟨_,rfl,by simp only;omega,by simp only;omega,?_⟩
   simp only
   rw[Int.pow_succ]
   exact hm
  rintro⟨n,v⟩ ⟨hk,h1,h2⟩
  simp only at hk h1 h2
  subst hk
  unfold bY
  simp only
  rw[ifN]
  exact⟨_,rfl,h1,Int.le_trans h2 (hp _ h6)⟩
 obtain⟨q,e,q1,q2⟩:=key
 rw[e]
 simp only[obnd]
 have key:∃ r,ai (cC s.nodes s.ties s.horizon) (q,1)=some r∧1≤r∧r≤1000000000000:=by
  refine aW 3 (fun i st=>st.2=1+(i:Int)∧1≤st.1∧(i=0→st.1≤4750104241)∧(i=1→st.1≤9500208482)∧(i=2→st.1≤19000416964)∧(i=3→st.1≤38000833928)) _ (by refine⟨by simp,q1,?_,?_,?_,?_⟩ <;> intro h <;> first|exact q2|omega) ?_ ?_
  ·rintro i ⟨n,p⟩ hi ⟨hk,h1,h2,h3,h4,h5⟩
   simp only at hk h1 h2 h3 h4 h5
   subst hk
   unfold cC
   simp only
   rw[ifP,show(GShow.mk s.nodes s.ties s.horizon)=s from rfl,jd s _ hs.nodes]
   simp only[obnd]
   have hb:n≤19000416964:=by
    have:i=0∨i=1∨i=2:=by omega
    rcases this with rfl|rfl|rfl
    ·have:=h2 rfl;omega
    ·have:=h3 rfl;omega
    exact h4 rfl
   rw[wr (x:=1+(i:Int)+1)]
   split
   ·rw[wr (x:=2*n)]
    refine .inl ⟨_,rfl,by simp only;omega,by simp only;omega,fun h=>by omega,fun h=>?_,fun h=>?_,fun h=>?_⟩
    ·have:=h2 (by omega);simp only;omega
    ·have:=h3 (by omega);simp only;omega
    have:=h4 (by omega);simp only;omega
   refine .inl ⟨_,rfl,by simp only;omega,h1,fun h=>by omega,fun h=>?_,fun h=>?_,fun h=>?_⟩
   ·have:=h2 (by omega);simp only;omega
   ·have:=h3 (by omega);simp only;omega
   have:=h4 (by omega);simp only;omega
  rintro⟨n,p⟩ ⟨hk,h1,h2,h3,h4,h5⟩
  simp only at hk h1 h2 h3 h4 h5
  subst hk
  unfold cC
  simp only
  rw[ifN]
  exact⟨_,rfl,h1,by have:=h5 trivial;omega⟩
 obtain⟨r,e,r1,r2⟩:=key
 rw[e]
 exact⟨_,rfl,r1,r2⟩
theorem Kd {s:GShow}(hf:FitS s)(h:ay s=true)(n:Int):∃ r,cQ s n=some r:=by
 have h6:=uT h
 have hs:=hf.small
 unfold cQ
 obtain⟨k,e,_,_⟩:=uU hf h
 rw[e]
 simp only[obnd]
 rw[kY]
 simp only
 split
 ·rw[pj s hf.ties]
  change ∃ r,(obnd (ai (bG (((aT s).length:Nat):Int) s.nodes s.ties s.horizon (aT s)) (n,0,[])) _)=_
  have key:∃ q,ai (bG (((aT s).length:Nat):Int) s.nodes s.ties s.horizon (aT s)) (n,0,[])=some q∧True:=by
   refine aW (aT s).length (fun i st=>st.2.1=(i:Int)∧st.2.2.length=i) _ ⟨rfl,rfl⟩ ?_ ?_
   ·rintro i ⟨m,v,l⟩ hi ⟨hk,h1⟩
    simp only at hk h1
    subst hk
    obtain⟨t,e,b1,b2,b3⟩:=IT h (List.getElem_mem hi)
    unfold bG
    simp only
    rw[ifP,ar hi]
    simp only[obnd]
    rw[e]
    simp only
    rw[wr (x:=t.high - t.low),wr (x:=t.high - t.low+1),chP,chP,chP,wr (x:=(i:Int)+1)]
    exact .inl ⟨_,rfl,by simp only;omega,by simp only[List.length_append,List.length_singleton];omega⟩
   rintro⟨m,v,l⟩ ⟨hk,h1⟩
   simp only at hk h1
   subst hk
   unfold bG
   simp only
   rw[ifN]
   exact⟨_,rfl,trivial⟩
  obtain⟨q,e,_⟩:=key
  rw[e]
  simp only[obnd]
  have key:∃ r,ai (bH s.nodes s.ties s.horizon q.2) (q.1,1,[])=some r∧True:=by
   refine aW 3 (fun i st=>st.2.1=1+(i:Int)∧st.2.2.length=i) _ ⟨by simp,rfl⟩ ?_ ?_
   ·rintro i ⟨m,v,l⟩ hi ⟨hk,h1⟩
    simp only at hk h1
    subst hk
    unfold bH
    simp only
    rw[ifP,show(GShow.mk s.nodes s.ties s.horizon)=s from rfl,jd s _ hs.nodes]
    simp only[obnd]
    rw[wr (x:=1+(i:Int)+1)]
    split
    ·rw[chP,chP]
     exact .inl ⟨_,rfl,by simp only;omega,by simp only[List.length_append,List.length_singleton];omega⟩
    rw[chP,chP]
    exact .inl ⟨_,rfl,by simp only;omega,by simp only[List.length_append,List.length_singleton];omega⟩
   rintro⟨m,v,l⟩ ⟨hk,h1⟩
   simp only at hk h1
   subst hk
   unfold bH
   simp only
   rw[ifN]
   exact⟨_,rfl,trivial⟩
  obtain⟨r,e,_⟩:=key
  rw[e]
  exact⟨_,rfl⟩
 exact⟨_,rfl⟩
end Go.Proofs.Qi
set_option maxRecDepth 100000
set_option maxHeartbeats 1000000
namespace Go.Proofs.Qi
open Go
theorem CV {s:GShow}(h:ay s=true):eA s 0=[]∧∀ (h0:0<s.nodes.length),s.nodes[0].watch=0:=by
 have hR:=aR h
 have hn:=hR.node1
 unfold ay fJ pS at h
 simp only[Bool.and_eq_true]at h
 obtain⟨⟨⟨⟨⟨⟨h1,hf⟩,_⟩,h2⟩,h3⟩,h4⟩,_⟩:=h
 rw[List.getElem?_eq_getElem (show 0<s.nodes.length by omega)]at hf
 simp only[Option.any_some,Bool.and_eq_true,decide_eq_true_eq]at hf
 refine⟨?_,fun _=>hf.2⟩
 rw[rP (by omega)]
 exact hf.1
end Go.Proofs.Qi
set_option maxRecDepth 100000
set_option maxHeartbeats 1000000
namespace Go.Proofs.Qi
open Go Go.Lib
theorem wK (l:List UInt8):bs (ofL l)=l:=by simp[bs,ofL]
theorem wL (a b:ByteArray):bs (a++b)=bs a++bs b:=by
 unfold bs;rw[ByteArray.data_append,Array.toList_append]
theorem mE (s:ByteArray):s.size=(bs s).length:=by unfold bs;rw[Array.length_toList];rfl
theorem lY (l:List UInt8):(ofL l).size=l.length:=by rw[mE,wK]
def i64 (n:Int):Prop:=-9223372036854775808≤n∧n≤9223372036854775807
theorem GB {u:Nat}(h:¬ u<10):decDigits u=decDigits (u / 10)++[UInt8.ofNat (48+u % 10)]:=by rw[decDigits,dif_neg h]
theorem sE {u:Nat}(h:u<10):decDigits u=[UInt8.ofNat (48+u)]:=by rw[decDigits,dif_pos h]
theorem qG:∀ (k u:Nat),u<10^(k+1)→(decDigits u).length≤k+1
 | 0,u,h=>by rw[sE (by omega)];simp
 | k+1,u,h=>by
  by_cases h1:u<10
  ·rw[sE h1];simp
  rw[GB h1,List.length_append,List.length_singleton]
  have:=qG k (u / 10) (by rw[Nat.pow_succ]at h;omega)
  omega
theorem kX {n:Int}(h:i64 n):(itoa n).length≤20:=by
 have h1:=h.1
 have h2:=h.2
 unfold itoa;split
 ·have:=qG 18 n.natAbs (by omega)
  simp only[List.length_cons];omega
 have:=qG 18 n.toNat (by omega)
 omega
theorem fH {n:Int}(h:i64 n):br n=some (ofL (itoa n)):=by
 unfold br nq LA
 rw[if_pos (show -9223372036854775808≤n∧n≤9223372036854775807 from h)];rfl
def val (l:List UInt8):Nat:=l.foldl (fun a c=>a*10+(c.toNat - 48)) 0
end Go.Proofs.Qi
set_option maxRecDepth 100000
set_option maxHeartbeats 1000000
namespace Go.Proofs.Qi
open Go Go.Lib
theorem Ay {B:Nat}(sep:List UInt8)(xs:List (List UInt8))(h:∀ x,x∈xs→x.length≤B):(Lib.join xs sep).length≤xs.length*(B+sep.length):=by
 have key:∀ xs:List (List UInt8),(∀ x,x∈xs→x.length≤B)→(joinTail sep xs).length≤xs.length*(B+sep.length):=by
  intro xs
  induction xs with
  | nil=>intro _;simp[joinTail]
  | cons x r ih=>
   intro h
   have h1:=ih (fun y hy=>h y (by simp[hy]))
   have h2:=h x (by simp)
   simp only[joinTail,List.map_cons,List.flatten_cons,List.length_append,List.length_cons]at h1 ⊢
   rw[Nat.succ_mul];omega
 cases xs with
 | nil=>simp[Lib.join_nil]
 | cons x r=>
  rw[Lib.join_cons,List.length_append,List.length_cons,Nat.succ_mul]
  have h1:=key r (fun y hy=>h y (by simp[hy]))
  have h2:=h x (by simp)
  omega
def uV (l:List ByteArray)(sep:ByteArray):ByteArray:=ofL (Lib.join (l.map bs) (bs sep))
theorem sF (l:List ByteArray)(sep:ByteArray)(h1:l.length≤1073741824)(h2:(Lib.join (l.map bs) (bs sep)).length≤1099511627776):fN l sep=some (uV l sep):=by
 unfold fN nr LB
 rw[if_pos ⟨by omega,by omega⟩];rfl
end Go.Proofs.Qi
