/- The reference's game reckons winning too. Own work. -/
import Derived.Test.YtpodkllkinpfmaaGreatDoorXmP33
import Derived.Test.YtpodkllkinpfmaaGreatDoorXmP24
import Derived.Lib.AtoiAllCases
import Derived.Lib.IndexBytes
set_option linter.all false
set_option maxRecDepth 100000
namespace Go.Proofs.Qm
open Go
end Go.Proofs.Qm
set_option maxRecDepth 100000
namespace Go.Proofs.Qm
open Go
theorem GH {α:Type}{l:List α}{n:Nat}{x:α}(h:n<l.length):(l.set n x).take (n+1)=l.take n++[x]:=by
 have e:(l.set n x).take n=l.take n:=by
  apply List.ext_getElem?
  intro i
  rw[List.getElem?_take,List.getElem?_take]
  split
  ·rw[List.getElem?_set_ne (by omega)]
  rfl
 rw[fY (by simp;exact h),e]
 simp
theorem Pa {α:Type}{xs ys:List α}{i:Nat}(h:i+ys.length≤xs.length):(putL xs i ys).take i=xs.take i:=by
 unfold putL
 rw[za h,zE,List.take_append_of_le_length (by rw[zB];omega),List.take_take]
 simp
theorem Pb {α β ρ:Type}(xs:List α)(q:α→Bool)(I:β→Prop)(body:Int × β→Option (Step (Int × β) ρ))(rT:β→ρ)(rF:Int→β→ρ)
  (h1:∀ i (hi:i<xs.length) k,I k→∃ k',I k'∧body ((i:Int),k)=some (if q xs[i]=true then .done (rF (i:Int) k') else .next ((i:Int)+1,k')))
  (h2:∀ k,I k→body ((xs.length:Int),k)=some (.done (rT k))) (k:β) (hk:I k) :
  ∃ k',I k'∧ak body (0,k)=some (if 0≤aL xs q then rF (aL xs q) k' else rT k'):=by
 have key:=br (body:=body) (s0:=((0:Int),k)) xs.length (fun i st=>st.1=(i:Int)∧I st.2∧∀ j (hj:j<xs.length),j<i→q xs[j]=false)
  (fun r=>∃ k',I k'∧r=(if 0≤aL xs q then rF (aL xs q) k' else rT k')) ⟨rfl,hk,fun j _ h=>absurd h (by omega)⟩ ?_ ?_
 ·obtain⟨r,hr,hp⟩:=key
  obtain⟨k',h3,rfl⟩:=hp
  exact⟨k',h3,hr⟩
 ·rintro i ⟨a,k⟩ hi ⟨rfl,hI,hall⟩
  obtain⟨k',hk',hb⟩:=h1 i hi k hI
  cases hq:q xs[i]
  ·rw[hq,zb (by simp)]at hb
   refine .inl ⟨_,hb,rfl,hk',fun j hj hlt=>?_⟩
   rcases Nat.lt_or_ge j i with h|h
   ·exact hall j hj h
   obtain rfl:j=i:=by omega
   exact hq
  rw[hq,za rfl]at hb
  refine .inr ⟨_,hb,k',hk',?_⟩
  have:aL xs q=(i:Int):=by
   unfold aL
   have:xs.findIdx? q=some i:=by
    rw[List.findIdx?_eq_some_iff_getElem]
    exact⟨hi,hq,fun j hj=>by simp[hall j (by omega) hj]⟩
   rw[this]
  rw[this,ifP]
 rintro⟨a,k⟩ ⟨rfl,hI,hall⟩
 refine⟨_,h2 k hI,k,hI,?_⟩
 rw[zb]
 intro h0
 obtain⟨j,hj,_,hq,_⟩:=dt h0
 rw[hall j hj hj]at hq
 cases hq
theorem ul {α:Type}{xs:List α}{q:α→Bool}(h:¬ 0≤aL xs q):aL xs q=-1∧xs.any q=false:=by
 constructor
 ·unfold aL at h ⊢
  cases hf:xs.findIdx? q with
  | none=>rfl
  | some j=>rw[hf]at h;simp at h
 rw[← iY];exact zf h
section
variable {s:GShow} {y:GState}
theorem TM (hs:bQ s)(h:MomR s y){nodes:List Int}(hn:nodes∈decL s y){known:List (ByteArray × Bool)}(hk:bv s known) :
  ∃ known',bv s known'∧fS nodes s known y=some (!de (win s) s y nodes,known'):=by
 obtain⟨k',hk',e⟩:=Ce (sT hs _ (by have:=h.now;omega)) h hn hk
 refine⟨k',hk',?_⟩
 unfold fS oq
 rw[e];rfl
theorem GJ (hs:bQ s)(h:MomR s y)(xs:List (List Int))(hx:∀ nd,nd∈xs→nd∈decL s y)(hl:xs.length≤128){known:List (ByteArray × Bool)}(hk:bv s known) :
  ∃ known',bv s known'∧bw xs s known y=some (aL xs (fun nd=>!de (win s) s y nd),xs,known'):=by
 unfold bw
 have key:=Pb xs (fun nd=>!de (win s) s y nd) (bv s) (bj (xs.length:Int) xs s.nodes s.ties s.horizon y.now y.times y.values)
  (fun k=>.inl k) (fun i k=>.inr (i,xs,k)) ?_ ?_ known hk
 ·obtain⟨k',hk',e⟩:=key
  rw[e]
  refine⟨k',hk',?_⟩
  simp only[obnd]
  by_cases h0:0≤aL xs (fun nd=>!de (win s) s y nd)
  ·rw[za h0]
  rw[zb h0,(ul h0).1]
 ·intro i hi k hk
  obtain⟨k',hk',e⟩:=TM hs h (hx _ (zh hi)) hk
  refine⟨k',hk',?_⟩
  unfold bj
  try simp only
  rw[ifP,aw hi]
  simp only[obnd]
  rw[show(GShow.mk s.nodes s.ties s.horizon)=s from rfl,show(GState.mk y.now y.times y.values)=y from rfl,e]
  simp only
  rw[wr]
  cases de (win s) s y xs[i] <;> rfl
 intro k _
 unfold bj
 try simp only
 rw[ifN]
theorem ER (hs:bQ s)(h:MomR s y)(xs:List (List Int))(hx:∀ nd,nd∈xs→nd∈decL s y)(hl:xs.length≤128){known:List (ByteArray × Bool)}(hk:bv s known) :
  ∃ known',bv s known'∧bq xs s known y=some (xs.filter (fun nd=>de (win s) s y nd),known'):=by
 obtain⟨k1,hk1,e1⟩:=GJ hs h xs hx hl hk
 have hfn:xs.filter (fun nd=>de (win s) s y nd)=xs.filter (fun nd=>!(!de (win s) s y nd)):=by simp
 rw[hfn]
 unfold bq
 rw[e1]
 simp only[obnd]
 generalize hq':(fun nd=>!de (win s) s y nd)=q at *
 have hq:∀ nd,q nd=!de (win s) s y nd:=fun nd=>by rw[← hq']
 have hff:(fun nd=>!(!de (win s) s y nd))=(fun x=>!q x):=by funext nd;rw[hq]
 rw[hff]
 by_cases h0:0≤aL xs q
 ·obtain⟨i0,hi0,he,hq0,hno⟩:=dt h0
  rw[he,ifN,wr (x:=(i0:Int)+1)]
  have htake:(xs.take i0).filter (fun x=>!q x)=xs.take i0:=by
   rw[List.filter_eq_self]
   intro x hm
   obtain⟨j,hj,rfl⟩:=zG hm
   rw[zB]at hj
   rw[k6,hno j (by omega)];rfl
  have inv:∃ r,ak (bg xs.length s.nodes s.ties s.horizon y.now y.times y.values) ((i0:Int),(i0:Int)+1,xs,k1)=some r∧(r.1=(((xs.filter (fun x=>!q x)).length:Nat):Int)∧r.2.1.length=xs.length∧r.2.1.take (xs.filter (fun x=>!q x)).length=xs.filter (fun x=>!q x)∧bv s r.2.2):=by
   refine br (xs.length - (i0+1)) (fun (k:Nat) (s':Int × Int × List (List Int) × List (ByteArray × Bool))=>s'.2.1=((i0+1+k:Nat):Int)∧s'.1=((((xs.take (i0+1+k)).filter (fun x=>!q x)).length:Nat):Int)∧s'.2.2.1.length=xs.length ∧
    s'.2.2.1.take ((xs.take (i0+1+k)).filter (fun x=>!q x)).length=(xs.take (i0+1+k)).filter (fun x=>!q x)∧(∀ j,i0+1+k≤j→s'.2.2.1[j]?=xs[j]?)∧((xs.take (i0+1+k)).filter (fun x=>!q x)).length<i0+1+k∧bv s s'.2.2.2) _ ?_ ?_ ?_
   ·have e1:(xs.take (i0+1)).filter (fun x=>!q x)=xs.take i0:=by
     rw[fY hi0,List.filter_append,htake]
     simp[hq0]
    have hl:(xs.take i0).length=i0:=by rw[zB];omega
    refine⟨by simp only;omega,?_,rfl,?_,fun _ _=>rfl,?_,hk1⟩
    ·simp only[Nat.add_zero];rw[e1,hl]
    ·simp only[Nat.add_zero];rw[e1,hl]
    simp only[Nat.add_zero];rw[e1,hl];omega
   ·rintro k ⟨v5,v6,v0,kn⟩ hk ⟨h1,h2,h3,h4,h5,h6,h7⟩
    simp only at h1 h2 h3 h4 h5 h6 h7
    have hj:i0+1+k<xs.length:=by omega
    have hg:getI v0 v6=some xs[i0+1+k]:=by
     unfold getI
     rw[h1,ifP,zm,h5 _ (zn _),zi hj]
    obtain⟨kn',hkn',ec⟩:=TM hs h (hx _ (zh hj)) h7
    left
    unfold bg
    simp only
    rw[ifP,chP,hg,wr (x:=v6+1)]
    simp only[obnd]
    rw[show(GShow.mk s.nodes s.ties s.horizon)=s from rfl,show(GState.mk y.now y.times y.values)=y from rfl,ec,← hq]
    simp only
    cases hqq:q xs[i0+1+k]
    ·have e2:(xs.take (i0+1+(k+1))).filter (fun x=>!q x)=(xs.take (i0+1+k)).filter (fun x=>!q x)++[xs[i0+1+k]]:=by
      rw[show i0+1+(k+1)=i0+1+k+1 by omega,fY hj,List.filter_append]
      simp[hqq]
     have hv5:getI v0 v5=some v0[((xs.take (i0+1+k)).filter (fun x=>!q x)).length]:=by rw[h2,aw (by omega)]
     rw[zb (by simp),chP,hv5,wr (x:=v5+1)]
     refine⟨_,rfl,by simp only;omega,?_,?_,?_,?_,?_,hkn'⟩
     ·simp only;rw[e2,zj,h2];simp
     ·simp only[zN];exact h3
     ·simp only;rw[e2,zj,h2,zm]
      simp only[zo,zt,Nat.zero_add]
      rw[GH (by omega),h4]
     ·intro j hj'
      simp only
      rw[h2,zm,List.getElem?_set_ne (by omega)]
      exact h5 j (by omega)
     rw[e2,zj];simp;omega
    have e2:(xs.take (i0+1+(k+1))).filter (fun x=>!q x)=(xs.take (i0+1+k)).filter (fun x=>!q x):=by
     rw[show i0+1+(k+1)=i0+1+k+1 by omega,fY hj,List.filter_append]
     simp[hqq]
    rw[za rfl]
    refine⟨_,rfl,by simp only;omega,?_,h3,?_,fun j hj'=>h5 j (by omega),?_,hkn'⟩
    ·simp only;rw[e2];exact h2
    ·simp only;rw[e2];exact h4
    rw[e2];omega
   rintro⟨v5,v6,v0,kn⟩ ⟨h1,h2,h3,h4,h5,h6,h7⟩
   simp only at h1 h2 h3 h4 h7
   have hall:i0+1+(xs.length - (i0+1))=xs.length:=by omega
   rw[hall]at h1 h2 h4
   rw[List.take_length]at h2 h4
   unfold bg
   simp only
   rw[ifN]
   exact⟨_,rfl,h2,h3,h4,h7⟩
  obtain⟨⟨v5,v0,kn⟩,hr,h1,h2,h3,h4⟩:=inv
  rw[hr]
  simp only at h1 h2 h3 h4 ⊢
  have hle:=List.length_filter_le (fun x=>!q x) xs
  subst h1
  simp only[zm]
  rw[chP,chP,chP,chP,aF (by rw[BT];omega),chP,Pa (by rw[j3];omega),h3]
  exact⟨kn,h4,rfl⟩
 obtain⟨h2,h1⟩:=ul h0
 rw[za h2,aF (zn _),List.take_length]
 refine⟨k1,hk1,?_⟩
 congr 2
 symm
 rw[List.filter_eq_self]
 intro x hm
 rw[zP]at h1
 have:=h1 x hm
 cases hqx:q x
 ·rfl
 exact absurd hqx this
theorem SQ (hs:bQ s)(h:MomR s y){known:List (ByteArray × Bool)}(hk:bv s known) :
  ∃ known',bv s known'∧kX s known y=some ((decL s y).filter (de (win s) s y),known'):=by
 obtain⟨k',hk',e⟩:=ER hs h (decL s y) (fun _ h=>h) (wI h.right y) hk
 refine⟨k',hk',?_⟩
 unfold kX
 rw[tB hs h]
 simp only[obnd]
 rw[e]
end
def sL (lazy:Bool)(l:List (List Int))(p:List Int→Bool):Option (List Int):=if lazy=true then l.reverse.find? p else l.find? p
theorem SR (l:List (List Int))(p:List Int→Bool)(lazy:Bool)(hl:l.length≤128) :
  ov (l.filter p) lazy=some (match sL lazy l p with|some nd=>(nd,true)|none=>([],false)):=by
 have hle:=List.length_filter_le p l
 unfold ov sL
 have e1:l.find? p=(l.filter p).head?:=(List.head?_filter).symm
 have e2:l.reverse.find? p=(l.filter p).getLast?:=by rw[← List.head?_filter,List.filter_reverse,List.head?_reverse]
 rw[e1,e2]
 generalize l.filter p=m at *
 by_cases h0:m=[]
 ·subst h0
  rw[za (by simp)]
  cases lazy <;> rfl
 have hpos:0<m.length:=List.length_pos_iff.2 h0
 rw[ifN]
 cases lazy
 ·simp only[zM,if_false]
  have:getI m ((0:Nat):Int)=some m[0]:=aw hpos
  rw[show((0:Nat):Int)=0 from rfl]at this
  rw[this,List.head?_eq_getElem?,zi hpos];rfl
 simp only[zl]
 rw[wr,show(m.length:Int) - 1=((m.length - 1:Nat):Int) by omega,aw (by omega),List.getLast?_eq_getElem?,zi (by omega)];rfl
end Go.Proofs.Qm
set_option maxRecDepth 100000
namespace Go.Proofs.Qm
open Go
theorem Pc (log:List an)(hl:log.length≤1048576)(he:∀ e,e∈log→FitE e):mL log=some log:=by
 unfold mL
 have key:ak (jY log (log.length:Int)) (((0:Nat):Int),log.take 0)=some log:=by
  refine aH log.length (fun i=>((i:Int),log.take i)) ?_ ?_
  ·intro i hi
   have hf:=he _ (zh hi)
   unfold jY
   try simp only
   rw[ifP,aw hi]
   simp only[obnd]
   rw[gZ _ hf.ties,gZ _ hf.nodes,gZ _ hf.values]
   simp only
   rw[aF (by rw[zB];omega),aF (by rw[zB];omega),wr,List.take_succ_eq_append_getElem hi];rfl
  unfold jY
  try simp only
  rw[ifN,List.take_length]
 simp only[Int.natCast_zero,zO]at key
 rw[key];rfl
theorem Cf (d:GDesk)(h:FitD d):jw d=some d:=by
 unfold jw
 rw[BW _ h.sh]
 simp only[obnd]
 rw[qB _ h.st.times h.st.values]
 simp only
 rw[Pc _ h.log h.entry]
def pmB (values:List Int):Bool:=decide (values.length=3)&&values.all (fun v=>decide (v=1) || decide (v=-1))
noncomputable def dL (d:GDesk)(ties values:List Int):Int:=
 if iF d=true then (if pmB values=true then (if dd d.show_ d.state=true then 2 else if jz d.show_ d.state=true then 2 else if d.show_.horizon<d.state.now then 2 else if ties∈bG d.show_ d.state then 0 else 3) else 1) else 1
def eQ (values ps:List Int):List Int:=ps.map (fun p=>tm values (p - 1))
def litL (values ps:List Int):List Int:=ps.map (fun p=>p*tm values (p - 1))
noncomputable def finD (d:GDesk)(ties values nodes:List Int):GDesk:=
 ⟨d.show_,obsX (decX (endX d.show_ d.state ties) nodes) (aB d.show_ nodes) (eQ values (aB d.show_ nodes)),d.lazy,d.log++[⟨d.state.now,ties,nodes,litL values (aB d.show_ nodes)⟩]⟩
noncomputable def pK (d:GDesk)(ties values:List Int)(refused:Int)(c:Option (List Int)):GDesk × List Int × Int:=
 if dL d ties values=0 then (match c with|some nd=>(finD d ties values nd,nd,0)|none=>(d,[],refused)) else (d,[],dL d ties values)
theorem mV {d:GDesk}(h:iF d=true):aD d.show_ d.state=true:=by
 unfold iF at h
 simp only[zg]at h
 exact h.1.1.1
theorem oE {d:GDesk}{ties values:List Int}(h:dL d ties values=0):iF d=true∧pmB values=true∧ties∈bG d.show_ d.state∧dd d.show_ d.state=false∧jz d.show_ d.state=false∧¬ d.show_.horizon<d.state.now:=by
 unfold dL at h
 split at h
 ·rename_i h1
  split at h
  ·rename_i h2
   split at h
   ·omega
   rename_i h3
   split at h
   ·omega
   rename_i h4
   split at h
   ·omega
   rename_i h5
   split at h
   ·rename_i h6
    exact⟨h1,h2,h6,by simpa using h3,by simpa using h4,h5⟩
   omega
  omega
 omega
theorem SS {values:List Int}(h:pmB values=true):values.length=3∧∀ v,v∈values→v=1∨v=-1:=by
 unfold pmB at h
 rw[zg,zd,zw]at h
 exact⟨h.1,fun v hv=>by have:=h.2 v hv;simpa using this⟩
theorem Pd {values:List Int}(h:pmB values=true){k:Int}(h0:0≤k)(h1:k<3):tm values k=1∨tm values k=-1:=by
 obtain⟨h2,h3⟩:=SS h
 unfold tm
 rw[zi (show k.toNat<values.length by omega)]
 exact h3 _ (zh _)
theorem Zp {values:List Int}(h3:values.length=3):values.any (fun v=>!(decide (v=1) || decide (v=-1)))=!pmB values:=by
 unfold pmB
 rw[ze h3,zk,List.any_eq_not_all_not]
 simp
theorem Li (v:Int):iE v=some (!(decide (v=1) || decide (v=-1))):=by
 unfold iE
 by_cases h:v=1
 ·rw[za h,ze h];rfl
 rw[zb h,zf h]
 by_cases h2:v=-1
 ·rw[ze h2,zf (by simpa using h2)];rfl
 rw[zf h2,ze h2];rfl
theorem MP {values ps:List Int}(hv:pmB values=true)(hp:∀ p,p∈ps→1≤p∧p≤3)(hl:ps.length≤3):cU ps (eQ values ps)=some (litL values ps):=by
 unfold cU
 have key:ak (gA (eQ values ps) ps (ps.length:Int)) (((0:Nat):Int),litL values (ps.take 0))=some (litL values ps):=by
  refine aH ps.length (fun i=>((i:Int),litL values (ps.take i))) ?_ ?_
  ·intro i hi
   have hb:=hp _ (zh hi)
   have ht:=Pd hv (k:=ps[i] - 1) (by omega) (by omega)
   have hl1:(litL values (ps.take i)).length≤3:=by unfold litL;rw[zu,zB];omega
   have hsl:(eQ values ps).length=ps.length:=by unfold eQ;simp
   unfold gA
   try simp only
   rw[ifP,aw hi,aw (show i<(eQ values ps).length by omega)]
   simp only[obnd]
   have hs:(eQ values ps)[i]'(by omega)=tm values (ps[i] - 1):=by unfold eQ;simp
   rw[hs,chP,chP,wr (x:=(i:Int)+1),wr (x:=ps[i]*tm values (ps[i] - 1)) (by rcases ht with h|h <;> rw[h] <;> omega) (by rcases ht with h|h <;> rw[h] <;> omega)]
   congr 3
   unfold litL
   rw[List.take_succ_eq_append_getElem hi,zI];rfl
  unfold gA
  try simp only
  rw[ifN,List.take_length]
 simp only[Int.natCast_zero,zO]at key
 rw[show litL values []=[] from rfl]at key
 rw[key];rfl
theorem wK {values ps:List Int}(hv:pmB values=true)(hp:∀ p,p∈ps→1≤p∧p≤3):(eQ values ps).length=ps.length∧∀ v,v∈eQ values ps→v=1∨v=-1:=by
 refine⟨by unfold eQ;simp,fun v hm=>?_⟩
 unfold eQ at hm
 rw[zq]at hm
 obtain⟨p,hpm,rfl⟩:=hm
 have:=hp p hpm
 exact Pd hv (by omega) (by omega)
theorem yw (d:GDesk)(ties values:List Int)(refused:Int)(d':GDesk)(hf:FitD d)(ht:ties.length≤1048576)(hvl:values.length≤1048576)(c:Option (List Int))(hmem:∀ nd,c=some nd→nd∈decL d.show_ (endX d.show_ d.state ties))
  (hc:dL d ties values=0→∃ r,jq d.show_ [] (endX d.show_ d.state ties) d'=some r∧r.2.1=c.isSome∧∀ nd,c=some nd→r.1=nd) :
  bX d ties values refused d'=some (pK d ties values refused c):=by
 have hs:=hf.sh.small
 have hlog:=hf.log
 have hg0:=@oE d ties values
 unfold pK
 unfold bX
 rw[Cf d hf]
 simp only[obnd]
 rw[Ca d hf]
 simp only
 cases hd:iF d
 ·have e:dL d ties values=1:=by unfold dL;rw[hd];rfl
  rw[e];rfl
 have hx:=mV hd
 have hR:=aW hx
 simp only[zl]
 by_cases h3:values.length=3
 rotate_left
 ·have e:dL d ties values=1:=by unfold dL pmB;rw[hd,zf h3];rfl
  rw[ifN,e];rfl
 rw[ifP,gi values _ (fun v=>!(decide (v=1) || decide (v=-1))) (by unfold Cnt;omega) (fun v _=>Li v),Zp h3]
 simp only
 cases hp:pmB values
 ·have e:dL d ties values=1:=by unfold dL;rw[hd,hp];rfl
  rw[e];rfl
 simp only[Bool.not_true,zM,if_false]
 rw[pw hs hR]
 simp only
 cases hb:dd d.show_ d.state
 rotate_left
 ·have e:dL d ties values=2:=by unfold dL;rw[hd,hp,hb];rfl
  rw[e];rfl
 simp only[zM,if_false]
 rw[qF hs hR]
 simp only
 cases ho:jz d.show_ d.state
 rotate_left
 ·have e:dL d ties values=2:=by unfold dL;rw[hd,hp,hb,ho];rfl
  rw[e];rfl
 simp only[zM,if_false]
 by_cases hh:d.show_.horizon<d.state.now
 ·have e:dL d ties values=2:=by unfold dL;rw[hd,hp,hb,ho,za hh];rfl
  rw[za hh,e];rfl
 rw[zb hh,sJ hx]
 simp only
 have hel:=uh (x:=d.state) hR.ok
 rw[Cy _ _ (by unfold Cnt;omega) (by unfold Cnt;omega)]
 simp only
 by_cases hm:ties∈bG d.show_ d.state
 rotate_left
 ·have e:dL d ties values=3:=by unfold dL;rw[hd,hp,hb,ho,zb hh,zb hm];rfl
  rw[zf hm,e];rfl
 have e:dL d ties values=0:=by unfold dL;rw[hd,hp,hb,ho,zb hh,za hm];rfl
 obtain⟨a1,a2,a3⟩:=jE hR.ok hm
 have hM:=kG hx hm
 have hv3:=(bp hR.val).1
 rw[ze hm,za rfl,tA hx (by omega) (by omega) a3]
 simp only
 unfold gu
 simp only
 obtain⟨r,e1,e2,e3⟩:=hc e
 rw[e1,e]
 simp only[zl]
 rw[e2]
 cases c with
 | none=>rfl
 | some nd=>
  have hn:=hmem nd rfl
  obtain⟨n1,n2,n3⟩:=gG hM.right hn
  have hps:∀ p,p∈aB d.show_ nd→1≤p∧p≤3:=fun p hp=>⟨(bB hp).1,(bB hp).2.1⟩
  have hpl:=oA d.show_ nd
  simp only[Option.isSome_some,zl]
  rw[e3 nd rfl,qD hM n1 n2 n3]
  simp only
  have key:ak (bo ties values nd (((aB d.show_ nd).length:Nat):Int) d.show_.horizon d.state.now d.lazy d.state.now d.state.times d.state.values (decX (endX d.show_ d.state ties) nd).now d.show_.nodes d.show_.ties d.state.times d.state.values d.log (decX (endX d.show_ d.state ties) nd).times (decX (endX d.show_ d.state ties) nd).values (aB d.show_ nd)) (((0:Nat):Int),eQ values ((aB d.show_ nd).take 0))=some (eQ values (aB d.show_ nd)):=by
   refine aH (aB d.show_ nd).length (fun i=>((i:Int),eQ values ((aB d.show_ nd).take i))) ?_ ?_
   ·intro i hi
    have hb:=hps _ (zh hi)
    have hsl:(eQ values ((aB d.show_ nd).take i)).length≤3:=by unfold eQ;rw[zu,zB];omega
    unfold bo
    try simp only
    rw[ifP,aw hi]
    simp only[obnd]
    rw[wr (x:=(aB d.show_ nd)[i] - 1),bu (by omega) (by omega)]
    simp only
    rw[chP,chP,wr]
    congr 3
    unfold eQ
    rw[List.take_succ_eq_append_getElem hi,zI];rfl
   unfold bo
   try simp only
   rw[ifN,List.take_length]
  simp only[Int.natCast_zero,zO]at key
  rw[show eQ values []=[] from rfl]at key
  rw[key]
  simp only
  obtain⟨s1,s2⟩:=wK hp hps
  have hnow:=hR.now
  have hhor:=hR.right.hor
  have hln:=hM.len
  have h7:=hM.right.nodes
  rw[(pu (decX (endX d.show_ d.state ties) nd) (aB d.show_ nd) (eQ values (aB d.show_ nd)) (by show 0≤d.state.now∧d.state.now≤1000;omega) (by show(cC _ _ _ _).length≤_;rw[fz];omega) hv3 hps s1 (by omega)).1]
  simp only
  rw[gZ _ ht,gZ _ (by omega),MP hp hps hpl]
  simp only
  rw[chP,chP]
  rfl
end Go.Proofs.Qm
set_option maxRecDepth 100000
namespace Go.Proofs.Qm
open Go
end Go.Proofs.Qm
set_option maxRecDepth 100000
namespace Go.Proofs.Qm
open Go
noncomputable def wL (d:GDesk)(ties:List Int):Option (List Int):=sL d.lazy (decL d.show_ (endX d.show_ d.state ties)) (de (win d.show_) d.show_ (endX d.show_ d.state ties))
theorem rN {lazy:Bool}{l:List (List Int)}{p:List Int→Bool}{nd:List Int}(h:sL lazy l p=some nd):nd∈l∧p nd=true:=by
 unfold sL at h
 split at h
 ·exact⟨by simpa using w9 h,w5 h⟩
 exact⟨w9 h,w5 h⟩
theorem IJ (d:GDesk)(ties values:List Int)(hf:FitD d)(ht:ties.length≤1048576)(hv:values.length≤1048576):lK d ties values=some (pK d ties values 5 (wL d ties)):=by
 have hs:=hf.sh.small
 unfold lK
 rw[yw d ties values 5 d hf ht hv (wL d ties) (fun nd h=>(rN h).1) ?_]
 ·rfl
 intro h0
 obtain⟨g1,_,g3,_⟩:=oE h0
 have hM:=kG (mV g1) g3
 have hl:=wI hM.right (endX d.show_ d.state ties)
 unfold jq wL
 cases hz:d.lazy
 ·simp only[zM,if_false]
  obtain⟨k',_,e⟩:=sK hs (y:=endX d.show_ d.state ties) (sT hs _ (by have:=hM.now;omega)) hM (uj d.show_)
  unfold fJ
  rw[e]
  simp only[obnd]
  refine⟨_,rfl,?_⟩
  unfold sL
  simp only[zM,if_false]
  cases(decL d.show_ (endX d.show_ d.state ties)).find? (de (win d.show_) d.show_ (endX d.show_ d.state ties)) with
  | none=>exact⟨rfl,fun nd h=>by cases h⟩
  | some nd=>exact⟨rfl,fun nd' h=>by cases h;rfl⟩
 simp only[zl]
 obtain⟨k',_,e⟩:=SQ hs hM (uj d.show_)
 rw[e]
 simp only[obnd]
 rw[SR _ _ _ hl]
 simp only
 refine⟨_,rfl,?_⟩
 cases sL true (decL d.show_ (endX d.show_ d.state ties)) (de (win d.show_) d.show_ (endX d.show_ d.state ties)) with
 | none=>exact⟨rfl,fun nd h=>by cases h⟩
 | some nd=>exact⟨rfl,fun nd' h=>by cases h;rfl⟩
theorem QK (d:GDesk)(ties values:List Int)(refused:Int)(c:Option (List Int))(hf:FitD d)(ht:ties.length≤1048576)(hc:dL d ties values=0→∀ nd,c=some nd→nd∈decL d.show_ (endX d.show_ d.state ties)) :
  FitD (pK d ties values refused c).1∧(pK d ties values refused c).2.1.length≤7:=by
 unfold pK
 by_cases h0:dL d ties values=0
 ·rw[za h0]
  cases c with
  | none=>exact⟨hf,by simp⟩
  | some nd=>
   obtain⟨g1,hp,g3,_⟩:=oE h0
   have hx:=mV g1
   have hR:=aW hx
   have hM:=kG hx g3
   have hnd:=hc h0 nd rfl
   obtain⟨n1,n2,n3⟩:=gG hM.right hnd
   have hlog:(d.log.length:Int)=d.state.now:=by
    unfold iF at g1
    simp only[zg,zd]at g1
    exact g1.1.1.2
   have hnow:=hR.now
   have hhor:=hR.right.hor
   have hln:=hM.len
   have h7:=hM.right.nodes
   have hv3:=(bp hR.val).1
   have hpl:=oA d.show_ nd
   refine⟨⟨hf.sh,⟨?_,?_⟩,?_,?_⟩,n2⟩
   ·show(cC _ _ _ _).length≤_
    rw[fz];omega
   ·show(setV _ _ _ _).length≤_
    rw[oC]
    show d.state.values.length≤_
    omega
   ·show(d.log++[_]).length≤_
    rw[zj];simp;omega
   intro e he
   have he':e∈d.log++[⟨d.state.now,ties,nd,litL values (aB d.show_ nd)⟩]:=he
   rw[zD,zC]at he'
   rcases he' with he'|rfl
   ·exact hf.entry e he'
   exact⟨ht,by show nd.length≤_;omega,by show(litL _ _).length≤_;unfold litL;rw[zu];omega⟩
 rw[zb h0]
 exact⟨hf,by simp⟩
end Go.Proofs.Qm
set_option maxRecDepth 100000
namespace Go.Proofs.Qm
open Go
end Go.Proofs.Qm
set_option maxRecDepth 100000
set_option maxHeartbeats 1000000
namespace Go.Proofs.Qm
open Go
noncomputable def bK (c:GChoice)(d:GDesk):GDesk × List Int × Int:=pK d (endL d.show_ d.state c) c.values 5 (wL d (endL d.show_ d.state c))
noncomputable def runF (c:GChoice):Nat→GDesk→GDesk × Int
 | 0,d=>(d,0)
 | n+1,d=>if (bK c d).2.2=0 then runF c n (bK c d).1 else (d,(bK c d).2.2)
noncomputable def runR (d:GDesk)(c:GChoice):GDesk × Int:=if iF d=true then (if aP d.show_ c=true then runF c 13 d else (d,1)) else (d,1)
def tupD (d:GDesk):Int × Int × Bool × (List GNode) × (List GTie) × (List Int) × (List Int) × (List an):=(d.show_.horizon,d.state.now,d.lazy,d.show_.nodes,d.show_.ties,d.state.times,d.state.values,d.log)
theorem sf {s:GShow}{c:GChoice}(h:aP s c=true):c.values.length=3:=by
 unfold aP at h
 simp only[zg,zd]at h
 exact h.1.1.2
theorem wM {d:GDesk}{ties values:List Int}{c:Option (List Int)}(h:(pK d ties values 5 c).2.2=0):dL d ties values=0∧∃ nd,c=some nd∧pK d ties values 5 c=(finD d ties values nd,nd,0):=by
 unfold pK at h ⊢
 by_cases h0:dL d ties values=0
 ·rw[za h0]at h ⊢
  cases c with
  | none=>exact absurd h (by simp)
  | some nd=>exact⟨h0,nd,rfl,rfl⟩
 rw[zb h0]at h
 exact absurd h h0
theorem QL {d:GDesk}{ties values nd:List Int}(h0:dL d ties values=0)(hn:nd∈decL d.show_ (endX d.show_ d.state ties)):aD d.show_ (finD d ties values nd).state=true:=by
 obtain⟨g1,hp,g3,_⟩:=oE h0
 have hM:=kG (mV g1) g3
 obtain⟨_,_,hm⟩:=gG hM.right hn
 obtain⟨s1,s2⟩:=wK (values:=values) (ps:=aB d.show_ nd) hp (fun p h=>⟨(bB h).1,(bB h).2.1⟩)
 exact tC hM hm s1 s2
theorem Lj {c:GChoice}{d:GDesk}(hf:FitD d)(h:(bK c d).2.2=0) :
  FitD (bK c d).1∧(bK c d).1.show_=d.show_∧aD d.show_ (bK c d).1.state=true∧(bK c d).1.state.now=d.state.now+1:=by
 unfold bK at h ⊢
 obtain⟨h0,nd,hc,he⟩:=wM h
 have hl:=KV d.show_ d.state c hf.sh.ties
 have hnd:nd∈decL d.show_ (endX d.show_ d.state (endL d.show_ d.state c)):=(rN hc).1
 have hfit:=(QK d (endL d.show_ d.state c) c.values 5 (wL d (endL d.show_ d.state c)) hf hl (fun _ nd h=>(rN h).1)).1
 rw[he]at hfit ⊢
 exact⟨hfit,rfl,QL h0 hnd,rfl⟩
theorem UV (c:GChoice)(body:(Int × Int × Bool × (List GNode) × (List GTie) × (List Int) × (List Int) × (List an))→Option (Step (Int × Int × Bool × (List GNode) × (List GTie) × (List Int) × (List Int) × (List an)) (GDesk × Int)))
  (hb:∀ d,FitD d→aD d.show_ d.state=true→aP d.show_ c=true→body (tupD d)=some (if (bK c d).2.2=0 then .next (tupD (bK c d).1) else .done (d,(bK c d).2.2))) :
  ∀ (n:Nat) (d:GDesk),FitD d→aD d.show_ d.state=true→aP d.show_ c=true→12<(n:Int)+d.state.now→ak body (tupD d)=some (runF c n d):=by
 intro n
 induction n with
 | zero=>
  intro d hf hx hc h
  have:=(aW hx).now
  have:=(aW hx).right.hor
  omega
 | succ n ih=>
  intro d hf hx hc h
  rw[bc,hb d hf hx hc]
  show _=some (if (bK c d).2.2=0 then runF c n (bK c d).1 else (d,(bK c d).2.2))
  by_cases h0:(bK c d).2.2=0
  ·obtain⟨f1,f2,f3,f4⟩:=Lj hf h0
   rw[za h0,za h0]
   exact ih _ f1 (by rw[f2];exact f3) (by rw[f2];exact hc) (by rw[f4];omega)
  rw[zb h0,zb h0]
theorem Lk (d:GDesk)(c:GChoice)(hf:FitD d):mM d c=some (runR d c):=by
 unfold mM runR
 rw[Cf d hf]
 simp only[obnd]
 rw[Ca d hf]
 simp only
 cases hD:iF d
 ·rw[zb (by simp),zb (by simp)]
 have hx:=mV hD
 rw[za rfl,za rfl,uF d.show_ c hf.sh.small (aW hx).right hf.sh.ties]
 simp only
 cases hC:aP d.show_ c
 ·rw[zb (by simp),zb (by simp)]
 rw[za rfl,za rfl]
 have hn:=(aW hx).now
 have key:=UV c (mr c.lengths c.values) (by
  intro d hf hx hc
  have hl:=KV d.show_ d.state c hf.sh.ties
  have hv:=sf hc
  unfold mr tupD
  simp only
  rw[show(GShow.mk d.show_.nodes d.show_.ties d.show_.horizon)=d.show_ from rfl,show(GState.mk d.state.now d.state.times d.state.values)=d.state from rfl,show(GChoice.mk c.lengths c.values)=c from rfl,show(GDesk.mk d.show_ d.state d.lazy d.log)=d from rfl]
  rw[vl d.show_ d.state c hf.sh hf.st]
  simp only[obnd]
  rw[IJ d _ c.values hf hl (by omega)]
  simp only
  show(if (bK c d).2.2=0 then _ else _)=_
  by_cases h0:(bK c d).2.2=0
  ·rw[za h0,za h0];rfl
  rw[zb h0,zb h0];rfl) 13 d hf hx hC (by omega)
 unfold tupD at key
 rw[key]
theorem Ll (c:GChoice):∀ (n:Nat) (d:GDesk),FitD d→FitD (runF c n d).1∧(runF c n d).1.show_=d.show_
 | 0,d,hf=>⟨hf,rfl⟩
 | n+1,d,hf=>by
  show FitD (if (bK c d).2.2=0 then runF c n (bK c d).1 else (d,(bK c d).2.2)).1∧(if (bK c d).2.2=0 then runF c n (bK c d).1 else (d,(bK c d).2.2)).1.show_=d.show_
  by_cases h0:(bK c d).2.2=0
  ·obtain⟨f1,f2,f3,f4⟩:=Lj hf h0
   rw[za h0]
   obtain⟨g1,g2⟩:=Ll c n _ f1
   exact⟨g1,by rw[g2,f2]⟩
  rw[zb h0]
  exact⟨hf,rfl⟩
theorem ST (d:GDesk)(c:GChoice)(hf:FitD d):FitD (runR d c).1∧(runR d c).1.show_=d.show_:=by
 unfold runR
 split
 ·split
  ·exact Ll c 13 d hf
  exact⟨hf,rfl⟩
 exact⟨hf,rfl⟩
end Go.Proofs.Qm
set_option maxRecDepth 100000
set_option maxHeartbeats 1000000
namespace Go.Proofs.Qm
open Go
def um (s:GShow)(x:GState):Bool:=if aD s x=true then (if dd s x=true then false else jz s x) else false
theorem MQ (s:GShow)(x:GState)(hs:bQ s)(fx:FitX x):nK s x=some (um s x):=by
 unfold nK um
 rw[oz s x hs fx.times fx.values]
 simp only[obnd]
 cases hx:aD s x
 ·rw[zb (by simp),zb (by simp)]
 rw[za rfl,za rfl,pw hs (aW hx)]
 simp only
 cases hb:dd s x
 ·rw[zb (by simp),zb (by simp),qF hs (aW hx)]
 rw[za rfl,za rfl]
theorem SU {s:GShow}(z:Bool)(h:au s=true):(lT s z).2=true:=by
 unfold lT;rw[za h]
end Go.Proofs.Qm
set_option maxRecDepth 100000
set_option maxHeartbeats 1000000
namespace Go.Proofs.Qm
open Go
theorem lit1 {p v:Int}(h1:1≤p)(h2:p≤3)(hv:v=1∨v=-1):pr (p*v)=p∧sgn (p*v)=v∧p*v≠0∧-3≤p*v∧p*v≤3:=by
 have:p=1∨p=2∨p=3:=by omega
 rcases this with rfl|rfl|rfl <;> rcases hv with rfl|rfl <;> decide
theorem ES {values ps:List Int}(hv:pmB values=true)(hp:∀ p,p∈ps→1≤p∧p≤3){p:Int}(h:p∈ps):pr (p*tm values (p - 1))=p∧sgn (p*tm values (p - 1))=tm values (p - 1)∧p*tm values (p - 1)≠0∧-3≤p*tm values (p - 1)∧p*tm values (p - 1)≤3:=by
 have h1:=hp p h
 exact lit1 h1.1 h1.2 (Pd hv (by omega) (by omega))
theorem Zq {values ps:List Int}(hv:pmB values=true)(hp:∀ p,p∈ps→1≤p∧p≤3):(litL values ps).map pr=ps:=by
 unfold litL
 rw[List.map_map]
 conv=>rhs;rw[← List.map_id ps]
 exact List.map_congr_left (fun p h=>(ES hv hp h).1)
theorem UW {values ps:List Int}(hv:pmB values=true)(hp:∀ p,p∈ps→1≤p∧p≤3):(litL values ps).map sgn=eQ values ps:=by
 unfold litL eQ
 rw[List.map_map]
 exact List.map_congr_left (fun p h=>(ES hv hp h).2.1)
theorem QM {values ps:List Int}(hv:pmB values=true)(hp:∀ p,p∈ps→1≤p∧p≤3)(ha:Asc ps):bY (litL values ps)=true:=by
 have hlen:(litL values ps).length=ps.length:=zu _
 have hget:∀ i,i<ps.length→(litL values ps).getD i 0=ps.getD i 0*tm values (ps.getD i 0 - 1):=by
  intro i hi
  unfold litL
  simp[hi]
 have hmem:∀ i,i<ps.length→ps.getD i 0∈ps:=by
  intro i hi
  rw[show ps.getD i 0=ps[i] by simp[hi]]
  exact zh hi
 unfold bY
 refine ze ?_
 intro i hi
 rw[hlen]at hi
 unfold labP
 refine ze ?_
 rw[hget i hi]
 obtain⟨a1,a2,a3,a4,a5⟩:=ES hv hp (hmem i hi)
 refine⟨a3,a4,a5,?_⟩
 intro h0
 rw[hget (i - 1) (by omega),a1,(ES hv hp (hmem (i - 1) (by omega))).1]
 exact Ld ha hi h0
theorem Cg {s:GShow}(e:an):∀ (log:List an) (x:GState),(bC s x log).2=true→(dy s (bC s x log).1 e).2=true→bC s x (log++[e])=((dy s (bC s x log).1 e).1,true)
 | [],x,_,h=>by
  show(if (dy s x e).2=true then bC s (dy s x e).1 [] else (mO,false))=_
  have h':(dy s x e).2=true:=h
  rw[za h'];rfl
 | f::r,x,h,g=>by
  have hc:∀ l,bC s x (f::l)=if (dy s x f).2=true then bC s (dy s x f).1 l else (mO,false):=fun _=>rfl
  rw[hc]at h g
  rw[List.cons_append,hc,hc]
  by_cases he:(dy s x f).2=true
  ·rw[za he]at h g
   rw[za he,za he]
   exact Cg e r _ h g
  rw[zb he]at h;cases h
theorem Lm {d:GDesk}{ties values nd:List Int}(h0:dL d ties values=0)(hn:nd∈decL d.show_ (endX d.show_ d.state ties)):iF (finD d ties values nd)=true:=by
 obtain⟨g1,hp,g3,_⟩:=oE h0
 have hps:∀ p,p∈aB d.show_ nd→1≤p∧p≤3:=fun p h=>⟨(bB h).1,(bB h).2.1⟩
 have hst:=QL (values:=values) h0 hn
 have hg:=g1
 unfold iF at hg
 simp only[zg,zd]at hg
 obtain⟨⟨⟨e1,e2⟩,e3⟩,e4⟩:=hg
 have hstep:dy d.show_ d.state ⟨d.state.now,ties,nd,litL values (aB d.show_ nd)⟩=((finD d ties values nd).state,true):=by
  unfold dy
  rw[za ⟨rfl,g3,QM hp hps (ui _ _),hn,Zq hp hps⟩]
  simp only
  rw[UW hp hps]
  rfl
 have hrep:fK d.show_ (d.log++[⟨d.state.now,ties,nd,litL values (aB d.show_ nd)⟩])=((finD d ties values nd).state,true):=by
  unfold fK at e3 e4 ⊢
  by_cases hA:au d.show_=true
  ·rw[za hA]at e3 e4 ⊢
   rw[Cg _ d.log _ e3 (by rw[e4,hstep]),e4,hstep]
  rw[zb hA]at e3;cases e3
 unfold iF
 simp only[zg,zd]
 refine⟨⟨⟨hst,?_⟩,?_⟩,?_⟩
 ·show(((d.log++[_]).length:Nat):Int)=d.state.now+1
  rw[zj]
  simp only[zo,zt]
  omega
 ·show(fK d.show_ (d.log++[_])).2=true
  rw[hrep]
 show(fK d.show_ (d.log++[_])).1=_
 rw[hrep]
theorem Ln {s:GShow}(z:Bool)(h:au s=true):iF (lT s z).1=true:=by
 unfold lT
 rw[za h]
 unfold iF
 simp only[zg,zd]
 refine⟨⟨⟨oD h,rfl⟩,?_⟩,?_⟩
 ·unfold fK;rw[za h];rfl
 unfold fK;rw[za h];rfl
end Go.Proofs.Qm
set_option maxRecDepth 100000
set_option maxHeartbeats 1000000
namespace Go.Proofs.Qm
open Go
structure BrT (t:GTie):Prop where
 f0:0≤t.from_
 f1:t.from_<4
 t0:0≤t.to
 t1:t.to<4
 ne:t.from_≠t.to
 lo:-20≤t.low
 hi:t.high≤20
 lh:t.low≤t.high
 fr:t.free=false
theorem BrT.b {t:GTie}(h:BrT t){ns:List GNode}{ts:List GTie}{z:Int}(hn:4≤ns.length):tieB ⟨ns,ts,z⟩ t=true:=by
 have h1:=h.f1
 have h2:=h.t1
 unfold tieB
 rw[zd]
 exact⟨⟨h.f0,by show t.from_<(ns.length:Int);omega⟩,⟨h.t0,by show t.to<(ns.length:Int);omega⟩,h.ne,h.lo,h.hi,h.lh⟩
theorem BrT.f {t:GTie}(h:BrT t){s:GShow}{i:Nat}:oX s i t=true:=by
 unfold oX
 rw[h.fr];rfl
end Go.Proofs.Qm
set_option maxRecDepth 100000
set_option maxHeartbeats 1000000
namespace Go.Proofs.Qm
open Go
theorem MR {s:GShow}{x:GState}(hs:bQ s)(fx:FitX x)(hx:aD s x=true):nD s x=some (win s x):=by
 unfold nD
 rw[oz s x hs fx.times fx.values]
 simp only[obnd]
 rw[hx,za rfl]
 unfold gu
 simp only
 obtain⟨k,_,e⟩:=sT hs x.now (aW hx).now.1 [] x hx rfl (uj s)
 rw[e]
end Go.Proofs.Qm
set_option maxRecDepth 100000
set_option maxHeartbeats 1000000
namespace Go.Proofs.Qm
open Go
theorem UX {ps vs:List Int}(h3:ps.length≤3)(hl:vs.length=ps.length)(hv:∀ v,v∈vs→v=1∨v=-1):vs∈obsL ps:=by
 unfold obsL
 rw[← hl]
 have h3':vs.length≤3:=by omega
 clear hl
 match vs,hv,h3' with
 | [],_,_=>decide +kernel
 | [a],hv,_=>
  rcases hv a (by simp) with rfl|rfl <;> decide +kernel
 | [a,b],hv,_=>
  rcases hv a (by simp) with rfl|rfl <;> rcases hv b (by simp) with rfl|rfl <;> decide +kernel
 | [a,b,c],hv,_=>
  rcases hv a (by simp) with rfl|rfl <;> rcases hv b (by simp) with rfl|rfl <;> rcases hv c (by simp) with rfl|rfl <;> decide +kernel
 | _::_::_::_::_,_,h=>simp at h
theorem UY {d:GDesk}{ties values nd:List Int}(h0:dL d ties values=0)(hs:de (win d.show_) d.show_ (endX d.show_ d.state ties) nd=true):win d.show_ (finD d ties values nd).state=true:=by
 obtain⟨g1,hp,g3,_⟩:=oE h0
 have hps:∀ p,p∈aB d.show_ nd→1≤p∧p≤3:=fun p h=>⟨(bB h).1,(bB h).2.1⟩
 obtain⟨s1,s2⟩:=wK (values:=values) (ps:=aB d.show_ nd) hp hps
 unfold de at hs
 rw[zw]at hs
 exact hs _ (UX (oA _ _) s1 s2)
theorem QN {d:GDesk}{ties values:List Int}(hd:iF d=true)(hp:pmB values=true):(dL d ties values=2∧(dd d.show_ d.state=true∨jz d.show_ d.state=true∨d.show_.horizon<d.state.now))∨(¬ dd d.show_ d.state=true∧¬ jz d.show_ d.state=true∧¬ d.show_.horizon<d.state.now∧dL d ties values=if ties∈bG d.show_ d.state then 0 else 3):=by
 unfold dL
 rw[za hd,za hp]
 by_cases hb:dd d.show_ d.state=true
 ·rw[za hb];exact .inl ⟨rfl,.inl hb⟩
 rw[zb hb]
 by_cases ho:jz d.show_ d.state=true
 ·rw[za ho];exact .inl ⟨rfl,.inr (.inl ho)⟩
 rw[zb ho]
 by_cases hh:d.show_.horizon<d.state.now
 ·rw[za hh];exact .inl ⟨rfl,.inr (.inr hh)⟩
 rw[zb hh];exact .inr ⟨hb,ho,hh,rfl⟩
theorem Pe {lazy:Bool}{l:List (List Int)}{p:List Int→Bool}(h:sL lazy l p=none):∀ nd,nd∈l→p nd=false:=by
 unfold sL at h
 intro nd hn
 split at h
 ·simpa using w0.1 h nd (by simpa using hn)
 simpa using w0.1 h nd hn
theorem MS (code:List Int)(n:Int)(h:code.length≤1048576)(h0:0≤n)(h1:n≤1000000):∃ r,gB code n=some r∧0≤r:=by
 unfold gB
 obtain⟨c,e,hc⟩:=Ic code n h h0 h1
 rw[e]
 simp only[obnd]
 obtain⟨r,e,a0,a1,hr⟩:=oS hc
 rw[e]
 simp only
 obtain⟨q,e,b0,b1,hq⟩:=oS hr
 rw[e]
 refine⟨_,rfl,?_⟩
 rw[wr (x:=r.1*256),wr (x:=r.1*256+q.1)]
 omega
end Go.Proofs.Qm
set_option maxRecDepth 100000
set_option maxHeartbeats 1000000
namespace Go.Proofs.Qm
open Go
theorem pV {s:GShow}{k:Int}(h:k∈ar s):∃ i,∃ hi:i<s.ties.length,k=(i:Int)∧s.ties[i].free=true:=by
 obtain⟨i,hi,hp,rfl⟩:=dK.1 h
 unfold fZ at hp
 rw[zi hi]at hp
 exact⟨i,hi,rfl,hp⟩
theorem tD {s:GShow}(h:au s=true):(ar s).length≤6:=by
 have hR:=aI h
 have hn:=hR.nodes
 have hnd:((ar s).map (fun k=>(al s k).to)).Nodup:=by
  unfold List.Nodup
  rw[List.pairwise_map]
  refine List.Pairwise.imp_of_mem ?_ (oT _ _)
  intro a b ha hb hab he
  obtain⟨i,hi,rfl,hf⟩:=pV ha
  obtain⟨j,hj,rfl,hg⟩:=pV hb
  rw[aK hi,aK hj]at he
  have:=wE h hi hj hf hg he
  omega
 have:=ug (r:=[1,2,3,4,5,6]) hnd (fun y hy=>by
  rw[zq]at hy
  obtain⟨k,hk,rfl⟩:=hy
  obtain⟨i,hi,rfl,hf⟩:=pV hk
  rw[aK hi]
  have hT:=hR.tie _ (zh hi)
  have h0:=(dZ h hi hf).t0
  have h1:=hT.t0
  have h2:=hT.t1
  simp only[zH,List.not_mem_nil,or_false]
  omega)
 simpa using this
theorem Lo {s:GShow}(h:au s=true){k:Int}(hk:k∈ar s):∃ t,getI s.ties k=some t∧-20≤t.low∧t.low≤t.high∧t.high≤20:=by
 obtain⟨i,hi,rfl,_⟩:=pV hk
 have hT:=(aI h).tie _ (zh hi)
 exact⟨_,aw hi,hT.lo,hT.lh,hT.hi⟩
theorem CA {s:GShow}(hf:FitS s)(h:au s=true):∃ n,bE s=some n∧1≤n∧n≤1000000000000:=by
 have h6:=tD h
 have hs:=hf.small
 unfold bE
 rw[Ck s hs,h]
 simp only[obnd,zl]
 rw[qy s hf.ties]
 change ∃ n,(obnd (ak (cA (((ar s).length:Nat):Int) s.nodes s.ties s.horizon (ar s)) (1,0)) _)=_∧_
 have key:∃ q,ak (cA (((ar s).length:Nat):Int) s.nodes s.ties s.horizon (ar s)) (1,0)=some q∧1≤q∧q≤4750104241:=by
  have hp:∀ i:Nat,i≤6→(41:Int)^i≤4750104241:=by
   intro i hi
   have:i=0∨i=1∨i=2∨i=3∨i=4∨i=5∨i=6:=by omega
   rcases this with rfl|rfl|rfl|rfl|rfl|rfl|rfl <;> decide
  refine br (ar s).length (fun i st=>st.2=(i:Int)∧1≤st.1∧st.1≤41^i) _ ⟨rfl,by decide,by decide⟩ ?_ ?_
  ·rintro i ⟨n,v⟩ hi ⟨hk,h1,h2⟩
   simp only at hk h1 h2
   subst hk
   obtain⟨t,e,b1,b2,b3⟩:=Lo h (zh hi)
   unfold cA
   simp only
   rw[ifP,aw hi]
   simp only[obnd]
   rw[e]
   simp only
   have hp1:=hp (i+1) (by omega)
   rw[wr (x:=t.high - t.low),wr (x:=t.high - t.low+1)]
   have hm:n*(t.high - t.low+1)≤41^i*41:=Int.mul_le_mul h2 (by omega) (by omega) (by omega)
   have hm0:1*1≤n*(t.high - t.low+1):=Int.mul_le_mul h1 (by omega) (by omega) (by omega)
   rw[Int.pow_succ]at hp1
   rw[wr (x:=n*(t.high - t.low+1)),wr (x:=(i:Int)+1)]
   refine .inl ⟨_,rfl,by simp only;omega,by simp only;omega,?_⟩
   simp only
   rw[Int.pow_succ]
   exact hm
  rintro⟨n,v⟩ ⟨hk,h1,h2⟩
  simp only at hk h1 h2
  subst hk
  unfold cA
  simp only
  rw[ifN]
  exact⟨_,rfl,h1,Int.le_trans h2 (hp _ h6)⟩
 obtain⟨q,e,q1,q2⟩:=key
 rw[e]
 simp only[obnd]
 have key:∃ r,ak (cY s.nodes s.ties s.horizon) (q,1)=some r∧1≤r∧r≤1000000000000:=by
  refine br 3 (fun i st=>st.2=1+(i:Int)∧1≤st.1∧(i=0→st.1≤4750104241)∧(i=1→st.1≤9500208482)∧(i=2→st.1≤19000416964)∧(i=3→st.1≤38000833928)) _ (by refine⟨by simp,q1,?_,?_,?_,?_⟩ <;> intro h <;> first|exact q2|omega) ?_ ?_
  ·rintro i ⟨n,p⟩ hi ⟨hk,h1,h2,h3,h4,h5⟩
   simp only at hk h1 h2 h3 h4 h5
   subst hk
   unfold cY
   simp only
   rw[ifP,show(GShow.mk s.nodes s.ties s.horizon)=s from rfl,jF s _ hs.nodes]
   simp only[obnd]
   have hb:n≤19000416964:=by
    have:i=0∨i=1∨i=2:=by omega
    rcases this with rfl|rfl|rfl
    ·have:=h2 rfl;omega
    ·have:=h3 rfl;omega
    exact h4 rfl
   rw[wr (x:=1+(i:Int)+1)]
   split
   ·rw[wr (x:=2*n)]
    refine .inl ⟨_,rfl,by simp only;omega,by simp only;omega,fun h=>by omega,fun h=>?_,fun h=>?_,fun h=>?_⟩
    ·have:=h2 (by omega);simp only;omega
    ·have:=h3 (by omega);simp only;omega
    have:=h4 (by omega);simp only;omega
   refine .inl ⟨_,rfl,by simp only;omega,h1,fun h=>by omega,fun h=>?_,fun h=>?_,fun h=>?_⟩
   ·have:=h2 (by omega);simp only;omega
   ·have:=h3 (by omega);simp only;omega
   have:=h4 (by omega);simp only;omega
  rintro⟨n,p⟩ ⟨hk,h1,h2,h3,h4,h5⟩
  simp only at hk h1 h2 h3 h4 h5
  subst hk
  unfold cY
  simp only
  rw[ifN]
  exact⟨_,rfl,h1,by have:=h5 trivial;omega⟩
 obtain⟨r,e,r1,r2⟩:=key
 rw[e]
 exact⟨_,rfl,r1,r2⟩
theorem MT {s:GShow}(hf:FitS s)(h:au s=true)(n:Int):∃ r,dr s n=some r:=by
 have h6:=tD h
 have hs:=hf.small
 unfold dr
 obtain⟨k,e,_,_⟩:=CA hf h
 rw[e]
 simp only[obnd]
 rw[mb]
 simp only
 split
 ·rw[qy s hf.ties]
  change ∃ r,(obnd (ak (bT (((ar s).length:Nat):Int) s.nodes s.ties s.horizon (ar s)) (n,0,[])) _)=_
  have key:∃ q,ak (bT (((ar s).length:Nat):Int) s.nodes s.ties s.horizon (ar s)) (n,0,[])=some q∧True:=by
   refine br (ar s).length (fun i st=>st.2.1=(i:Int)∧st.2.2.length=i) _ ⟨rfl,rfl⟩ ?_ ?_
   ·rintro i ⟨m,v,l⟩ hi ⟨hk,h1⟩
    simp only at hk h1
    subst hk
    obtain⟨t,e,b1,b2,b3⟩:=Lo h (zh hi)
    unfold bT
    simp only
    rw[ifP,aw hi]
    simp only[obnd]
    rw[e]
    simp only
    rw[wr (x:=t.high - t.low),wr (x:=t.high - t.low+1),chP,chP,chP,wr (x:=(i:Int)+1)]
    exact .inl ⟨_,rfl,by simp only;omega,by simp only[zj,zF];omega⟩
   rintro⟨m,v,l⟩ ⟨hk,h1⟩
   simp only at hk h1
   subst hk
   unfold bT
   simp only
   rw[ifN]
   exact⟨_,rfl,trivial⟩
  obtain⟨q,e,_⟩:=key
  rw[e]
  simp only[obnd]
  have key:∃ r,ak (bU s.nodes s.ties s.horizon q.2) (q.1,1,[])=some r∧True:=by
   refine br 3 (fun i st=>st.2.1=1+(i:Int)∧st.2.2.length=i) _ ⟨by simp,rfl⟩ ?_ ?_
   ·rintro i ⟨m,v,l⟩ hi ⟨hk,h1⟩
    simp only at hk h1
    subst hk
    unfold bU
    simp only
    rw[ifP,show(GShow.mk s.nodes s.ties s.horizon)=s from rfl,jF s _ hs.nodes]
    simp only[obnd]
    rw[wr (x:=1+(i:Int)+1)]
    split
    ·rw[chP,chP]
     exact .inl ⟨_,rfl,by simp only;omega,by simp only[zj,zF];omega⟩
    rw[chP,chP]
    exact .inl ⟨_,rfl,by simp only;omega,by simp only[zj,zF];omega⟩
   rintro⟨m,v,l⟩ ⟨hk,h1⟩
   simp only at hk h1
   subst hk
   unfold bU
   simp only
   rw[ifN]
   exact⟨_,rfl,trivial⟩
  obtain⟨r,e,_⟩:=key
  rw[e]
  exact⟨_,rfl⟩
 exact⟨_,rfl⟩
end Go.Proofs.Qm
set_option maxRecDepth 100000
set_option maxHeartbeats 1000000
namespace Go.Proofs.Qm
open Go
theorem ET {s:GShow}(h:au s=true){i:Nat}(hi:i<s.ties.length)(hf:s.ties[i].free=true):bN s s.ties[i].to.toNat=bN s s.ties[i].from_.toNat:=by
 have hR:=aI h
 have hT:=hR.tie _ (zh hi)
 unfold au at h
 simp only[zg,zd]at h
 have hp:=h.1.1.1.2 i hi
 rw[sV hi,zg]at hp
 have hF:=hp.2
 unfold oX at hF
 rw[hf]at hF
 simp only[Bool.not_true,Bool.false_or,zg,zd]at hF
 obtain⟨⟨⟨h1,h2⟩,h3⟩,h4⟩:=hF
 have a1:=hT.t1
 have a2:=hT.f1
 have b1:s.nodes[s.ties[i].to.toNat]?=some (s.nodes[s.ties[i].to.toNat]'(by have:=hT.t0;omega)):=zi _
 have b2:s.nodes[s.ties[i].from_.toNat]?=some (s.nodes[s.ties[i].from_.toNat]'(by have:=hT.f0;omega)):=zi _
 rw[b1,b2]at h3
 simp only[zd]at h3
 unfold bN
 rw[b1,b2]
 simp only[Option.map_some,Option.getD_some]
 exact h3.2
theorem wN {s:GShow}(h:au s=true):bN s 0=[]∧∀ (h0:0<s.nodes.length),s.nodes[0].watch=0:=by
 have hR:=aI h
 have hn:=hR.node1
 unfold au kZ rm at h
 simp only[zg]at h
 obtain⟨⟨⟨⟨⟨⟨h1,hf⟩,_⟩,h2⟩,h3⟩,h4⟩,_⟩:=h
 rw[zi (show 0<s.nodes.length by omega)]at hf
 simp only[Option.any_some,zg,zd]at hf
 refine⟨?_,fun _=>hf.2⟩
 rw[na (by omega)]
 exact hf.1
theorem Lp {ps v:List Int}(f:Int→Int)(hv:v.length=3)(hp:∀ p,p∈ps→1≤p∧p≤3):∀ n,n≤ps.length→∀ k:Int,0≤k→(∃ i,i<n∧ps.getD i 0 - 1=k)→tm (setV ps (ps.map f) v n) k=f (k+1)
 | 0,_,k,_,h=>by obtain⟨i,hi,_⟩:=h;omega
 | n+1,hn,k,hk,h=>by
  rw[oB]
  have hb:=hp (ps.getD n 0) (by rw[zp,zi (show n<ps.length by omega)];exact zh _)
  rw[qA _ _ _ _ (by omega) (by rw[oC];omega) hk]
  by_cases e:k=ps.getD n 0 - 1
  ·rw[za e,zp,z8,zi (show n<ps.length by omega)]
   rw[zp,zi (show n<ps.length by omega),Option.getD_some]at e
   simp only[Option.map_some,Option.getD_some]
   congr 1;omega
  rw[zb e]
  obtain⟨i,hi,he⟩:=h
  exact Lp f hv hp n (by omega) k hk ⟨i,by rcases Nat.lt_or_ge i n with h1|h1;exact h1;exact absurd (by rw[← he,show i=n by omega]) e,he⟩
structure vy (s:GShow) (c:GChoice) (x:GState):Prop where
 val:∀ k:Int,0≤k→k<3→tm x.values k≠0→tm x.values k=tm c.values k
 lab:∀ i:Nat,i<s.nodes.length→tm x.times (i:Int)≠-1→fA (bN s i) x.values=1
 lit:∀ i:Nat,i<s.nodes.length→tm x.times (i:Int)≠-1→∀ l,l∈bN s i→tm x.times (aT s (pr l))≠-1∧tm x.times (aT s (pr l))+1≤tm x.times (i:Int)
 ord:∀ i (hi:i<s.ties.length),s.ties[i].free=true→tm x.times s.ties[i].to≠-1→tm x.times s.ties[i].from_≠-1
 act:∀ i (hi:i<s.ties.length),s.ties[i].free=true→tm x.times s.ties[i].from_≠-1→tm x.times s.ties[i].to=-1→x.now - tm x.times s.ties[i].from_≤cB s c (i:Int)
 fin:∀ i (hi:i<s.ties.length),s.ties[i].free=true→tm x.times s.ties[i].to≠-1→tm x.times s.ties[i].to - tm x.times s.ties[i].from_=cB s c (i:Int)
theorem Nx {s:GShow}{i:Nat}(hi:i<s.ties.length)(hf:s.ties[i].free=true):(i:Int)∈ar s:=by
 refine dK.2 ⟨i,hi,?_,rfl⟩
 unfold fZ
 rw[zi hi];exact hf
theorem rj {s:GShow}{c:GChoice}(hc:aP s c=true)(h:au s=true){i:Nat}(hi:i<s.ties.length)(hf:s.ties[i].free=true):s.ties[i].low≤cB s c (i:Int)∧cB s c (i:Int)≤s.ties[i].high:=by
 have hm:=Nx hi hf
 have hlt:=Cx hm
 have hl:=tx hc
 unfold aP at hc
 simp only[zg,zd]at hc
 have hp:=hc.1.2 (idxOf (ar s) (i:Int)).toNat (by omega)
 unfold lenP at hp
 rw[zd]at hp
 have e:(ar s).getD (idxOf (ar s) (i:Int)).toNat 0=(i:Int):=by
  have h0:=hlt.1
  unfold idxOf at h0 ⊢
  cases hf:(List.range (ar s).length).find? (fun j=>decide ((i:Int)=(ar s).getD j 0)) with
  | none=>rw[hf]at h0;simp at h0
  | some j=>
   have:=w5 hf
   simp only[zd]at this
   simp only[zm]
   exact this.symm
 rw[e,aK hi]at hp
 have e2:c.lengths.getD (idxOf (ar s) (i:Int)).toNat 0=cB s c (i:Int):=by
  unfold cB;rw[zp]
 rw[e2]at hp
 exact hp
theorem QO {s:GShow}{c:GChoice}(h:au s=true)(hc:aP s c=true):vy s c (bP s):=by
 have hR:=aI h
 have hn:=hR.node1
 have h0:=wN h
 have ht:∀ i:Int,0≤i→i<s.nodes.length→tm (bP s).times i≠-1→i=0:=by
  intro i hi hl hne
  refine Classical.byContradiction (fun h1=>hne ?_)
  have key:∀ n (j:Nat),j<n→0<j→(stL n)[j]?=some (-1):=by
   intro n
   induction n with
   | zero=>intro j hj;omega
   | succ n ih=>
    intro j hj hj0
    cases n with
    | zero=>omega
    | succ n=>
     rw[Cu]
     rcases Nat.lt_or_ge j (n+1) with h2|h2
     ·rw[z7 (by rw[oR];exact h2)];exact ih j h2 hj0
     rw[w6 (by rw[oR];exact h2),oR,show j - (n+1)=0 by omega];rfl
  show tm (stL s.nodes.length) i=-1
  unfold tm
  rw[key s.nodes.length i.toNat (by omega) (by omega)];rfl
 have ht0:tm (bP s).times 0=0:=by
  show tm (stL s.nodes.length) 0=0
  have key:∀ n,(stL (n+1))[0]?=some 0:=by
   intro n
   induction n with
   | zero=>rfl
   | succ n ih=>rw[Cu,z7 (by rw[oR];omega)];exact ih
  obtain⟨n,hn2⟩:=Nat.exists_eq_add_of_le hn
  rw[hn2,Nat.add_comm]
  unfold tm
  rw[show(0:Int).toNat=0 from rfl,key n];rfl
 refine⟨?_,?_,?_,?_,?_,?_⟩
 ·intro k h1 h2 hne
  refine absurd ?_ hne
  show tm (List.replicate 3 0) k=0
  have:k=0∨k=1∨k=2:=by omega
  rcases this with rfl|rfl|rfl <;> rfl
 ·intro i hi hne
  have:=ht i (by omega) (by omega) hne
  have:i=0:=by omega
  subst this
  rw[h0.1];rfl
 ·intro i hi hne l hl
  have:=ht i (by omega) (by omega) hne
  have:i=0:=by omega
  subst this
  rw[h0.1]at hl;cases hl
 ·intro i hi hf hne
  have hT:=hR.tie _ (zh hi)
  exact absurd (ht _ hT.t0 hT.t1 hne) (dZ h hi hf).t0
 ·intro i hi hf hne _
  have hT:=hR.tie _ (zh hi)
  have e:=ht _ hT.f0 hT.f1 hne
  rw[e,ht0]
  have:=(rj hc h hi hf).1
  have:=(dZ h hi hf).low
  show(0:Int) - 0≤_
  omega
 intro i hi hf hne
 have hT:=hR.tie _ (zh hi)
 exact absurd (ht _ hT.t0 hT.t1 hne) (dZ h hi hf).t0
theorem EU {s:GShow}{x:GState}(hx:aD s x=true){ties:List Int}(ht:ties∈bG s x){nodes:List Int}(hn:nodes∈decL s (endX s x ties))(vs:List Int) :
  ∀ i:Int,0≤i→tm (obsX (decX (endX s x ties) nodes) (aB s nodes) vs).times i=if i∈nodes then x.now else if i∈ties.map (fun k=>(al s k).to) then x.now else tm x.times i:=by
 have hR:=aW hx
 obtain⟨_,_,ha⟩:=jE hR.ok ht
 have hM:=kG hx ht
 obtain⟨_,_,hm⟩:=gG hM.right hn
 have hlen:(endX s x ties).times.length=s.nodes.length:=hM.len
 intro i hi
 show tm (cC (fun k=>k) (endX s x ties).now nodes (endX s x ties).times) i=_
 rw[rL _ _ _ _ _ hi (fun k hk=>by obtain⟨j,hj,e,_,_⟩:=pJ (hm k hk);omega),List.map_id',sS hx ha hi]
 rfl
theorem wO {s:GShow}{x:GState}(hx:aD s x=true){i:Nat}(hi:i<s.nodes.length)(hl:fA (bN s i) x.values=1){l:Int}(hm:l∈bN s i) :
  0≤aT s (pr l)∧aT s (pr l)<s.nodes.length∧tm x.times (aT s (pr l))≠-1∧tm x.times (aT s (pr l))+1≤x.now:=by
 have hR:=aW hx
 have h1:=(uk.1 hl) l hm
 have hlo:=rM hR.ok hi
 rw[na hi]at hm
 obtain⟨p1,p2,p3⟩:=tH hlo.1 hm
 have p4:=wG p2 p3
 have hne:tm x.values (pr l - 1)≠0:=by
  unfold litV at h1
  split at h1 <;> omega
 have hx2:=hx
 unfold aD at hx2
 simp only[zg,zd]at hx2
 have hw:=hx2.2 (pr l - 1).toNat (by unfold gY;omega)
 unfold mN at hw
 rw[show(((pr l - 1).toNat:Nat):Int)=pr l - 1 by omega]at hw
 change (decide (tm x.values (pr l - 1)≠0) == (decide (0≤aT s (pr l - 1+1))&&decide (tm x.times (aT s (pr l - 1+1))≠-1)))=true at hw
 rw[show pr l - 1+1=pr l by omega,ze hne]at hw
 simp only[beq_iff_eq,Bool.true_eq,zg,zd]at hw
 obtain⟨w1,w2⟩:=hw
 obtain⟨j,hj,e,hq,_⟩:=dt (show 0≤aL s.nodes (fun n=>decide (n.watch=pr l)) from w1)
 have e':aT s (pr l)=(j:Int):=e
 refine⟨w1,by rw[e'];omega,w2,?_⟩
 have hj0:j≠0:=by
  rintro rfl
  have:=(wN hR.ok).2 hj
  simp only[zd]at hq
  omega
 have htp:=hx2.1.2 j (by rw[hR.len];exact hj)
 unfold lS at htp
 rw[zb hj0,zd]at htp
 rw[e'];omega
theorem SV {s:GShow}{c:GChoice}{x:GState}(hx:aD s x=true)(hc:aP s c=true)(hI:vy s c x)(ht:endL s x c∈bG s x){nodes:List Int}(hn:nodes∈decL s (endX s x (endL s x c))) :
  vy s c (obsX (decX (endX s x (endL s x c)) nodes) (aB s nodes) (eQ c.values (aB s nodes))):=by
 have hR:=aW hx
 have hok:=hR.ok
 obtain⟨hh,_,ha⟩:=jE hok ht
 have hM:=kG hx ht
 obtain⟨_,_,hm⟩:=gG hM.right hn
 have hE:=Lh hx hh ht hn (eQ c.values (aB s nodes))
 have hT:=EU hx ht hn (eQ c.values (aB s nodes))
 have heL:endL s x c=(actL s x).filter (fun k=>!endP s x c k):=by unfold endL;rw[za ⟨hx,hc⟩]
 have hx2:=hx
 unfold aD at hx2
 simp only[zg,zd]at hx2
 have htp:∀ j:Nat,j<s.nodes.length→j≠0→tm x.times (j:Int)≤x.now - 1:=by
  intro j hj hj0
  have h5:=hx2.1.2 j (by rw[hR.len];exact hj)
  unfold lS at h5
  rw[zb hj0,zd]at h5
  exact h5.2
 have hV:(obsX (decX (endX s x (endL s x c)) nodes) (aB s nodes) (eQ c.values (aB s nodes))).values=setV (aB s nodes) ((aB s nodes).map (fun p=>tm c.values (p - 1))) x.values (aB s nodes).length:=rfl
 have hN:(obsX (decX (endX s x (endL s x c)) nodes) (aB s nodes) (eQ c.values (aB s nodes))).now=x.now+1:=rfl
 generalize hz:obsX (decX (endX s x (endL s x c)) nodes) (aB s nodes) (eQ c.values (aB s nodes))=z at *
 have newN:∀ i:Int,i∈nodes→∃ j:Nat,i=(j:Int)∧j<s.nodes.length∧0<j∧aY s (j:Int)<0∧fA (bN s j) x.values=1:=by
  intro i hi
  obtain⟨j,hj,hp,rfl⟩:=dK.1 (hm i hi)
  unfold enAt chAt opAt at hp
  simp only[zg,zd]at hp
  exact⟨j,rfl,hj,hp.1.1,hp.1.2,hp.2.2⟩
 have newT:∀ i:Int,i∈(endL s x c).map (fun k=>(al s k).to)→∃ k,∃ hk:k<s.ties.length,s.ties[k].free=true∧s.ties[k].to=i∧tm x.times s.ties[k].from_≠-1∧tm x.times i=-1∧¬ x.now - tm x.times s.ties[k].from_<cB s c (k:Int):=by
  intro i hi
  rw[zq]at hi
  obtain⟨k,hk,rfl⟩:=hi
  obtain⟨j,hj,rfl,h1,h2,h3⟩:=lU (ha k hk)
  rw[heL,zx]at hk
  have h4:=hk.2
  unfold endP at h4
  rw[aK hj]at h4 ⊢
  simp only[zJ,zA]at h4
  exact⟨j,hj,h1,rfl,h2,h3,h4⟩
 have labN:∀ i:Nat,i<s.nodes.length→fA (bN s i) x.values=1→fA (bN s i) z.values=1:=by
  intro i hi hl
  have:=SP hR hE (i:=(i:Int)) (by omega) (by omega) (by unfold EQ;rw[zd];exact hl)
  unfold EQ at this
  rw[zd]at this
  exact this
 have litN:∀ i:Nat,i<s.nodes.length→fA (bN s i) x.values=1→x.now≤tm z.times (i:Int)→∀ l,l∈bN s i→tm z.times (aT s (pr l))≠-1∧tm z.times (aT s (pr l))+1≤tm z.times (i:Int):=by
  intro i hi hl hnow l hm
  obtain⟨w1,w2,w3,w4⟩:=wO hx hi hl hm
  rw[hE.t1 _ w1 w2 w3]
  exact⟨w3,by omega⟩
 have fromLab:∀ k (hk:k<s.ties.length),s.ties[k].free=true→tm x.times s.ties[k].from_≠-1→∀ i:Nat,s.ties[k].to=(i:Int)→fA (bN s i) x.values=1:=by
  intro k hk hf hne i hi
  have hTk:=hR.right.tie _ (zh hk)
  have h1:=hI.lab s.ties[k].from_.toNat (by have:=hTk.f0;have:=hTk.f1;omega) (by rw[show((s.ties[k].from_.toNat:Nat):Int)=s.ties[k].from_ by have:=hTk.f0;omega];exact hne)
  rw[← ET hok hk hf,hi,zm]at h1
  exact h1
 refine⟨?_,?_,?_,?_,?_,?_⟩
 ·intro k h1 h2 hne
  by_cases h0:tm x.values k=0
  ·rw[hV]at hne ⊢
   by_cases hin:∃ i,i<(aB s nodes).length∧(aB s nodes).getD i 0 - 1=k
   ·rw[Lp _ (bp hR.val).1 (fun p hp=>⟨(bB hp).1,(bB hp).2.1⟩) _ (zn _) k h1 hin]
    simp only[Int.add_sub_cancel]
   rw[vw (bp hR.val).1 (fun p hp=>⟨(bB hp).1,(bB hp).2.1⟩) _ (zn _) k h1 (fun i hi he=>hin ⟨i,hi,he⟩)]at hne
   exact absurd h0 hne
  rw[hE.v k h1 h0]
  exact hI.val k h1 h2 h0
 ·intro i hi hne
  refine labN i hi ?_
  rw[hT _ (by omega)]at hne
  by_cases h1:(i:Int)∈nodes
  ·obtain⟨j,e,_,_,_,h2⟩:=newN _ h1
   obtain rfl:i=j:=by omega
   exact h2
  rw[zb h1]at hne
  by_cases h2:(i:Int)∈(endL s x c).map (fun k=>(al s k).to)
  ·obtain⟨k,hk,hf,e,h3,h4,_⟩:=newT _ h2
   exact fromLab k hk hf h3 i e
  rw[zb h2]at hne
  exact hI.lab i hi hne
 ·intro i hi hne l hl
  by_cases h1:(i:Int)∈nodes
  ·obtain⟨j,e,_,_,_,h2⟩:=newN _ h1
   obtain rfl:i=j:=by omega
   exact litN i hi h2 (by rw[hT _ (by omega),za h1];exact zy _) l hl
  by_cases h2:(i:Int)∈(endL s x c).map (fun k=>(al s k).to)
  ·obtain⟨k,hk,hf,e,h3,h4,_⟩:=newT _ h2
   exact litN i hi (fromLab k hk hf h3 i e) (by rw[hT _ (by omega),zb h1,za h2];exact zy _) l hl
  have hne':tm x.times (i:Int)≠-1:=by rw[hT _ (by omega),zb h1,zb h2]at hne;exact hne
  obtain⟨w3,w4⟩:=hI.lit i hi hne' l hl
  obtain⟨w1,w2,_,_⟩:=wO hx hi (hI.lab i hi hne') hl
  rw[hE.t1 _ w1 w2 w3,hE.t1 (i:Int) (by omega) (by omega) hne']
  exact⟨w3,w4⟩
 ·intro i hi hf hne
  have hTi:=hR.right.tie _ (zh hi)
  have hfr:tm x.times s.ties[i].from_≠-1:=by
   rw[hT _ hTi.t0]at hne
   by_cases h1:s.ties[i].to∈nodes
   ·obtain⟨j,e,hj,_,h3,_⟩:=newN _ h1
    have:=iY (xs:=s.ties) (q:=fun t=>t.free&&decide (t.to=(j:Int)))
    unfold aY at h3
    rw[zf (by omega)]at this
    have h4:=this.symm
    rw[zP]at h4
    exact absurd (by rw[hf,ze e];rfl) (h4 s.ties[i] (zh hi))
   rw[zb h1]at hne
   by_cases h2:s.ties[i].to∈(endL s x c).map (fun k=>(al s k).to)
   ·obtain⟨k,hk,hfk,e,h3,h4,_⟩:=newT _ h2
    obtain rfl:=wE hok hk hi hfk hf e
    exact h3
   rw[zb h2]at hne
   exact hI.ord i hi hf hne
  rw[hE.t1 _ hTi.f0 hTi.f1 hfr]
  exact hfr
 ·intro i hi hf hne hop
  have hTi:=hR.right.tie _ (zh hi)
  have hlen:=rj hc hok hi hf
  have hlow:=(dZ hok hi hf).low
  have hop':tm x.times s.ties[i].to=-1:=by
   refine Classical.byContradiction (fun h1=>?_)
   rw[hE.t1 _ hTi.t0 hTi.t1 h1]at hop
   exact h1 hop
  rw[hN]
  by_cases hfr:tm x.times s.ties[i].from_=-1
  ·have:tm z.times s.ties[i].from_=x.now:=by
    rw[hT _ hTi.f0]at hne ⊢
    by_cases h1:s.ties[i].from_∈nodes
    ·rw[za h1]
    rw[zb h1]at hne ⊢
    by_cases h2:s.ties[i].from_∈(endL s x c).map (fun k=>(al s k).to)
    ·rw[za h2]
    rw[zb h2]at hne;exact absurd hfr hne
   omega
  rw[hE.t1 _ hTi.f0 hTi.f1 hfr]
  have hact:(i:Int)∈actL s x:=by
   refine dK.2 ⟨i,hi,?_,rfl⟩
   unfold qz actT
   rw[zi hi]
   simp only[Option.any_some,hf,zk,zd]
   exact⟨hfr,hop'⟩
  have hnot:¬ (i:Int)∈endL s x c:=by
   intro hin
   have:s.ties[i].to∈(endL s x c).map (fun k=>(al s k).to):=zq.2 ⟨(i:Int),hin,by rw[aK hi]⟩
   have h1:=hT _ hTi.t0
   rw[za this]at h1
   have h2:=hR.now
   split at h1 <;> omega
  have hlt:x.now - tm x.times s.ties[i].from_<cB s c (i:Int):=by
   refine Classical.byContradiction (fun h1=>hnot ?_)
   rw[heL,zx]
   refine⟨hact,?_⟩
   unfold endP
   rw[aK hi,zf h1];rfl
  omega
 intro i hi hf hne
 have hTi:=hR.right.tie _ (zh hi)
 by_cases hto:tm x.times s.ties[i].to=-1
 ·have h0:=hT _ hTi.t0
  by_cases h1:s.ties[i].to∈nodes
  ·obtain⟨j,e,hj,_,h3,_⟩:=newN _ h1
   have:=iY (xs:=s.ties) (q:=fun t=>t.free&&decide (t.to=(j:Int)))
   unfold aY at h3
   rw[zf (by omega)]at this
   have h4:=this.symm
   rw[zP]at h4
   exact absurd (by rw[hf,ze e];rfl) (h4 s.ties[i] (zh hi))
  rw[zb h1]at h0
  by_cases h2:s.ties[i].to∈(endL s x c).map (fun k=>(al s k).to)
  ·rw[za h2]at h0
   obtain⟨k,hk,hfk,e,h3,h4,h5⟩:=newT _ h2
   obtain rfl:=wE hok hk hi hfk hf e
   have:=hI.act k hk hf h3 hto
   rw[h0,hE.t1 _ hTi.f0 hTi.f1 h3]
   omega
  rw[zb h2]at h0
  rw[h0]at hne
  exact absurd hto hne
 have hfr:=hI.ord i hi hf hto
 rw[hE.t1 _ hTi.t0 hTi.t1 hto,hE.t1 _ hTi.f0 hTi.f1 hfr]
 exact hI.fin i hi hf hto
theorem Lq (c:GChoice):∀ (n:Nat) (d:GDesk),iF d=true→aP d.show_ c=true→vy d.show_ c d.state→vy d.show_ c (runF c n d).1.state∧(runF c n d).1.show_=d.show_
 | 0,d,_,_,hI=>⟨hI,rfl⟩
 | n+1,d,hd,hc,hI=>by
  unfold runF
  by_cases h0:(bK c d).2.2=0
  ·rw[za h0]
   unfold bK at h0 ⊢
   obtain⟨hg,nd,hnd,he⟩:=wM h0
   have hmem:nd∈decL d.show_ (endX d.show_ d.state (endL d.show_ d.state c)):=by
    unfold wL at hnd
    exact(rN hnd).1
   rw[he]
   have h1:=Lm hg hmem
   have h2:=SV (mV hd) hc hI (oE hg).2.2.1 hmem
   exact Lq c n _ h1 hc h2
  rw[zb h0]
  exact⟨hI,rfl⟩
structure Done (s:GShow) (c:GChoice) (T:List Int):Prop where
 len:T.length=s.nodes.length
 root:tm T 0=0
 hap:∀ i:Nat,i<s.nodes.length→(tm T (i:Int)≠-1↔fA (bN s i) c.values=1)
 hor:∀ i:Nat,i<s.nodes.length→-1≤tm T (i:Int)∧tm T (i:Int)≤s.horizon
 tie:∀ t,t∈s.ties→tm T t.from_≠-1→tm T t.to≠-1→t.low≤tm T t.to - tm T t.from_∧tm T t.to - tm T t.from_≤t.high
 fin:∀ i (hi:i<s.ties.length),s.ties[i].free=true→tm T s.ties[i].to≠-1→tm T s.ties[i].from_≠-1∧tm T s.ties[i].to - tm T s.ties[i].from_=cB s c (i:Int)
 lit:∀ i:Nat,i<s.nodes.length→tm T (i:Int)≠-1→∀ l,l∈bN s i→0≤aT s (pr l)∧aT s (pr l)<s.nodes.length∧tm T (aT s (pr l))≠-1∧tm T (aT s (pr l))+1≤tm T (i:Int)
theorem QP {l v:List Int}(h:fA l v=-1):∃ x,x∈l∧litV v x≤-1:=by
 have key:∀ (l:List Int) (o:Int),-1<o→l.foldl (fun o x=>if litV v x<o then litV v x else o) o=-1→∃ x,x∈l∧litV v x≤-1:=by
  intro l
  induction l with
  | nil=>intro o ho he;simp at he;omega
  | cons a l ih=>
   intro o ho he
   rw[List.foldl_cons]at he
   by_cases h1:litV v a≤-1
   ·exact⟨a,by simp,h1⟩
   obtain⟨x,hx,hl⟩:=ih (if litV v a<o then litV v a else o) (by split <;> omega) he
   exact⟨x,by simp[hx],hl⟩
 exact key l 1 (by omega) h
theorem Pf {s:GShow}{c:GChoice}{x:GState}(hc:aP s c=true)(hI:vy s c x)(hd:um s x=true):Done s c x.times:=by
 unfold um at hd
 split at hd
 ·rename_i hx
  split at hd
  ·cases hd
  rename_i hb
  have hR:=aW hx
  have hok:=hR.ok
  have hx2:=hx
  unfold aD at hx2
  simp only[zg,zd]at hx2
  have cv:=sf hc
  have litEq:∀ i:Nat,i<s.nodes.length→∀ l,l∈bN s i→litV x.values l≠0→litV x.values l=litV c.values l:=by
   intro i hi l hl hne
   have hlo:=rM hok hi
   rw[na hi]at hl
   obtain⟨p1,p2,p3⟩:=tH hlo.1 hl
   have p4:=wG p2 p3
   unfold litV at hne ⊢
   have h1:tm x.values (pr l - 1)≠0:=by split at hne <;> omega
   rw[hI.val _ (by omega) (by omega) h1]
  refine⟨hR.len,?_,?_,?_,?_,?_,?_⟩
  ·have h5:=hx2.1.2 0 (by rw[hR.len];have:=hR.right.node1;omega)
   unfold lS at h5
   rw[za rfl,zd]at h5
   exact h5
  ·intro i hi
   constructor
   ·intro hne
    have h1:=hI.lab i hi hne
    rw[uk]at h1 ⊢
    intro l hl
    have:=h1 l hl
    rw[← litEq i hi l hl (by omega)];exact this
   intro hl hne
   unfold jz at hd
   have h1:=zw.1 hd i (zQ.2 hi)
   unfold vx at h1
   rw[ze hne]at h1
   simp only[zk,Bool.not_not,zd]at h1
   obtain⟨l,hm,hlt⟩:=QP h1
   have h2:=(uk.1 hl) l hm
   rw[← litEq i hi l hm (by omega)]at h2
   omega
  ·intro i hi
   have h5:=hx2.1.2 i (by rw[hR.len];exact hi)
   unfold lS at h5
   have h6:=hR.now
   have h7:=hR.right.hor
   split at h5
   ·rename_i h0
    subst h0
    rw[zd]at h5
    rw[show((0:Nat):Int)=0 from rfl,h5];omega
   rw[zd]at h5
   omega
  ·intro t ht h1 h2
   have hb':dd s x=false:=by simpa using hb
   unfold dd at hb'
   rw[w7]at hb'
   have h3:=zP.1 hb'.1 t ht
   unfold late at h3
   rw[zb h1,zb h2]at h3
   simp only[Bool.not_eq_true,w7,zA]at h3
   omega
  ·intro i hi hf hne
   exact⟨hI.ord i hi hf hne,hI.fin i hi hf hne⟩
  intro i hi hne l hl
  obtain⟨w1,w2,_,_⟩:=wO hx hi (hI.lab i hi hne) hl
  obtain⟨w3,w4⟩:=hI.lit i hi hne l hl
  exact⟨w1,w2,w3,w4⟩
 cases hd
theorem QQ {s:GShow}{c:GChoice}{z:Bool}(hs:au s=true)(hc:aP s c=true)(hd:um s (runR (lT s z).1 c).1.state=true):Done s c (runR (lT s z).1 c).1.state.times:=by
 have e:(lT s z).1=⟨s,bP s,z,[]⟩:=by unfold lT;rw[za hs]
 have hdk:=Ln z hs
 rw[e]at hdk hd ⊢
 unfold runR at hd ⊢
 rw[za hdk,za hc]at hd ⊢
 obtain⟨h1,h2⟩:=Lq c 13 _ hdk hc (QO hs hc)
 exact Pf hc h1 hd
end Go.Proofs.Qm
set_option maxRecDepth 100000
set_option maxHeartbeats 1000000
namespace Go.Proofs.Qm
open Go Go.Lib
theorem QR (l:List UInt8):bs (ofL l)=l:=by simp[bs,ofL]
theorem Ij (a b:ByteArray):bs (a++b)=bs a++bs b:=by
 unfold bs;rw[ByteArray.data_append,Array.toList_append]
theorem vz (s:ByteArray):s.size=(bs s).length:=by unfold bs;rw[Array.length_toList];rfl
def i64 (n:Int):Prop:=-9223372036854775808≤n∧n≤9223372036854775807
theorem IK {u:Nat}(h:¬ u<10):decDigits u=decDigits (u / 10)++[UInt8.ofNat (48+u % 10)]:=by rw[decDigits,dif_neg h]
theorem un {u:Nat}(h:u<10):decDigits u=[UInt8.ofNat (48+u)]:=by rw[decDigits,dif_pos h]
theorem sg:∀ (k u:Nat),u<10^(k+1)→(decDigits u).length≤k+1
 | 0,u,h=>by rw[un (by omega)];simp
 | k+1,u,h=>by
  by_cases h1:u<10
  ·rw[un h1];simp
  rw[IK h1,zj,zF]
  have:=sg k (u / 10) (by rw[Nat.pow_succ]at h;omega)
  omega
theorem wP {n:Int}(h:i64 n):(itoa n).length≤20:=by
 have h1:=h.1
 have h2:=h.2
 unfold itoa;split
 ·have:=sg 18 n.natAbs (by omega)
  simp only[zo];omega
 have:=sg 18 n.toNat (by omega)
 omega
theorem rl {n:Int}(h:i64 n):cX n=some (ofL (itoa n)):=by
 unfold cX oP OB
 rw[za (show -9223372036854775808≤n∧n≤9223372036854775807 from h)];rfl
def val (l:List UInt8):Nat:=l.foldl (fun a c=>a*10+(c.toNat - 48)) 0
end Go.Proofs.Qm
set_option maxRecDepth 100000
set_option maxHeartbeats 1000000
namespace Go.Proofs.Qm
open Go Go.Lib
theorem Lr {B:Nat}(sep:List UInt8)(xs:List (List UInt8))(h:∀ x,x∈xs→x.length≤B):(Lib.join xs sep).length≤xs.length*(B+sep.length):=by
 have key:∀ xs:List (List UInt8),(∀ x,x∈xs→x.length≤B)→(joinTail sep xs).length≤xs.length*(B+sep.length):=by
  intro xs
  induction xs with
  | nil=>intro _;simp[joinTail]
  | cons x r ih=>
   intro h
   have h1:=ih (fun y hy=>h y (by simp[hy]))
   have h2:=h x (by simp)
   simp only[joinTail,List.map_cons,List.flatten_cons,zj,zo]at h1 ⊢
   rw[Nat.succ_mul];omega
 cases xs with
 | nil=>simp[Lib.join_nil]
 | cons x r=>
  rw[Lib.join_cons,zj,zo,Nat.succ_mul]
  have h1:=key r (fun y hy=>h y (by simp[hy]))
  have h2:=h x (by simp)
  omega
def aaz (l:List ByteArray)(sep:ByteArray):ByteArray:=ofL (Lib.join (l.map bs) (bs sep))
theorem QS (l:List ByteArray)(sep:ByteArray)(h1:l.length≤1073741824)(h2:(Lib.join (l.map bs) (bs sep)).length≤1099511627776):kl l sep=some (aaz l sep):=by
 unfold kl oQ OC
 rw[za ⟨by omega,by omega⟩];rfl
end Go.Proofs.Qm
