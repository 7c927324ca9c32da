/- The reference's game reckons winning too. Own work. -/
import Derived.Test.YtghfphjfkdbpjaaGreatBP33
import Derived.Test.YtghfphjfkdbpjaaGreatBP24
set_option linter.all false
set_option maxRecDepth 100000
namespace Go.Proofs.QB
open Go
abbrev RecS:=GShow→GState→Option Bool
def xZ (s:GShow)(t:Int)(rec:RecS):Prop:=∀ x,aD s x=true→x.now=t→rec s x=some (win s x)
theorem ya {s:GShow}(hs:aM s){rec:RecS}{y:GState}(hr:xZ s (y.now+1) rec)(h:MomR s y){nodes:List Int}(hn:nodes∈decL s y):gM rec s y nodes=some (ca (win s) s y nodes):=by
 obtain ⟨ha,hl7,hm⟩:=ct h.right hn
 have hv:=(aQ h.val).1
 have h7:=h.right.nodes
 have hln:=h.len
 have hnow:=h.now
 have hh:=h.right.hor
 have hp:∀ p,p∈aB s nodes→1≤p∧p≤3:=fun p hp=>⟨(bd hp).1,(bd hp).2.1⟩
 have hl3:=lL s nodes
 have ho:=FH (ps:=aB s nodes) (by omega)
 unfold gM
 rw [uF hs h hl7 hm]
 simp only [obnd]
 rw [xo (vm s nodes) hp hl3]
 simp only
 have key:=gS (body:=iI rec (((obsL (aB s nodes)).length:Nat):Int) s.nodes s.ties s.horizon (decX y nodes).now (decX y nodes).times (decX y nodes).values (aB s nodes) (obsL (aB s nodes)))
  (obsL (aB s nodes)) (fun vs=>win s (obsX (decX y nodes) (aB s nodes) vs)) (fun i=>(i:Int)) (rT:=.inl ()) (rF:=.inr false) ?_ ?_ ?_
 ·rw [show ((0:Nat):Int)=0 from rfl] at key
  rw [key]
  unfold ca
  cases (obsL (aB s nodes)).all (fun vs=>win s (obsX (decX y nodes) (aB s nodes) vs)) <;> rfl
 all_goals first
  | (
   intro i hi hq
   obtain ⟨h1,h2⟩:=tL (List.getElem_mem hi)
   have hob:=wg h hm h1 h2
   have e:=hr _ hob rfl
   unfold iI
   try simp only
   rw [if_pos (by omega),az hi]
   simp only [obnd]
   rw [show (GState.mk (decX y nodes).now (decX y nodes).times (decX y nodes).values)=decX y nodes from rfl,(mr (decX y nodes) (aB s nodes) _ (by show 0≤y.now∧y.now≤1000;omega) (by show (aZ _ _ _ _).length≤_;rw [bN];omega) hv hp h1 (by omega)).2]
   simp only
   rw [show (GShow.mk s.nodes s.ties s.horizon)=s from rfl,e,hq]
   first | rfl | (simp only [if_true];rw [wr (by omega) (by omega)];rfl))
  | (
   unfold iI
   try simp only
   rw [if_neg (by omega)])
theorem KE {s:GShow}(hs:aM s){rec:RecS}{y:GState}(hr:xZ s (y.now+1) rec)(h:MomR s y):kw rec s y=some (anyB (win s) s y):=by
 have h7:=wc h.right y
 have hpow:=oO h7
 have hpos:0<2^(enL s y).length:=Nat.pow_pos (by omega)
 unfold kw
 rw [xf hs h]
 simp only [obnd]
 rw [wru (by omega),aq (by omega),Int.toNat_natCast,lz h7,wr (by omega) (by omega)]
 have hlen:(decL s y).length=2^(enL s y).length:=by unfold decL;simp
 have hget:∀ j (hj:j<(decL s y).length),(decL s y)[j]=kW s y j:=by
  intro j hj
  have:(decL s y)[j]?=some (kW s y j):=by
   unfold decL
   rw [List.getElem?_map,List.getElem?_range (by omega)];rfl
  rw [List.getElem?_eq_getElem hj] at this
  exact Option.some.inj this
 have key:=iY (body:=gN rec s.nodes s.ties s.horizon y.now y.times y.values (enL s y)) (decL s y) (ca (win s) s y) (fun j=>((2^(enL s y).length:Nat):Int) - 1 - (j:Int)) (rT:=.inl ()) (fun _=>.inr true) ?_ ?_ ?_
 ·simp only [Int.natCast_zero,Int.sub_zero] at key
  rw [key]
  unfold anyB
  have hany:(decL s y).any (ca (win s) s y)=((decL s y).findIdx? (ca (win s) s y)).isSome:=(List.findIdx?_isSome).symm
  rw [hany]
  cases (decL s y).findIdx? (ca (win s) s y) <;> rfl
 ·intro j hj hq
  have hmem:=List.getElem_mem hj
  have e:=ya hs hr h hmem
  rw [hget j hj] at e hq
  have hd:kW s y j=sel (bS (((2^(enL s y).length:Nat):Int) - 1 - (j:Int))) (enL s y) (enL s y).length:=by
   unfold kW
   rw [show ((2^(enL s y).length - 1 - j:Nat):Int)=((2^(enL s y).length:Nat):Int) - 1 - (j:Int) by omega]
  unfold gN
  try simp only
  rw [if_pos (by omega),qR _ _ (by omega),← hd]
  simp only [obnd]
  rw [show (GShow.mk s.nodes s.ties s.horizon)=s from rfl,show (GState.mk y.now y.times y.values)=y from rfl,e,hq]
  simp only [Bool.false_eq_true,if_false]
  rw [wr (by omega) (by omega)]
  congr 2
  omega
 ·intro j hj hq
  have hmem:=List.getElem_mem hj
  have e:=ya hs hr h hmem
  rw [hget j hj] at e hq
  have hd:kW s y j=sel (bS (((2^(enL s y).length:Nat):Int) - 1 - (j:Int))) (enL s y) (enL s y).length:=by
   unfold kW
   rw [show ((2^(enL s y).length - 1 - j:Nat):Int)=((2^(enL s y).length:Nat):Int) - 1 - (j:Int) by omega]
  unfold gN
  try simp only
  rw [if_pos (by omega),qR _ _ (by omega),← hd]
  simp only [obnd]
  rw [show (GShow.mk s.nodes s.ties s.horizon)=s from rfl,show (GState.mk y.now y.times y.values)=y from rfl,e,hq]
  rfl
 ·unfold gN
  try simp only
  rw [if_neg (by omega)]
theorem DC {s:GShow}(hs:aM s){rec:RecS}{x:GState}(hx:aD s x=true)(hr:xZ s (x.now+1) rec):kx rec s x=some (win s x):=by
 have hR:=ba hx
 have hv:=(aQ hR.val).1
 have h6:=tS hR.ok x
 have hmm:=uB s x
 have hpow:=oO (m:=(mayL s x).length) (by omega)
 unfold kx
 rw [xX hs hR]
 simp only [obnd]
 have hw:=FK hx
 unfold lA at hw
 cases hb:bT s x
 ·rw [hb] at hw
  simp only [Bool.false_eq_true,if_false] at hw ⊢
  rw [Br hs hR]
  simp only
  cases ho:fX s x
  ·rw [ho] at hw
   simp only [Bool.false_eq_true,if_false] at hw ⊢
   obtain ⟨b,eb,hbw⟩:=GH hs hx
   rw [eb]
   simp only
   cases b
   ·simp only [Bool.false_eq_true,if_false]
    rw [xd hx]
    simp only
    have hh:x.now≤s.horizon:=by
     unfold bT at hb
     rw [Bool.or_eq_false_iff,ho] at hb
     have:=hb.2
     simp only [Bool.not_false,Bool.and_true,decide_eq_false_iff_not] at this
     omega
    have hends:aO s x=(List.range (2^(mayL s x).length)).map (kF s x):=by unfold aO;rw [if_neg (by omega)]
    have hlen:(aO s x).length=2^(mayL s x).length:=by rw [hends];simp
    have hget:∀ j (hj:j<(aO s x).length),(aO s x)[j]=kF s x j:=by
     intro j hj
     have:(aO s x)[j]?=some (kF s x j):=by
      rw [hends,List.getElem?_map,List.getElem?_range (by omega)];rfl
     rw [List.getElem?_eq_getElem hj] at this
     exact Option.some.inj this
    have step:∀ j (hj:j<(aO s x).length),gO rec s.nodes s.ties s.horizon x.now x.times x.values (kE s x) (mayL s x) (j:Int)=(if anyB (win s) s (endX s x (aO s x)[j])=true then some (.next ((j:Int)+1)) else some (.done (.inr false))):=by
     intro j hj
     have hmem:=List.getElem_mem hj
     obtain ⟨a1,a2,a3⟩:=fu hR.ok hmem
     have hM:=kb hx hmem
     have e:=KE hs (y:=endX s x (aO s x)[j]) hr hM
     obtain ⟨f1,f2,f3,f4,f5,f6⟩:=sd hR.ok x j
     rw [hget j hj] at e a2 a3 ⊢
     unfold gO
     try simp only
     rw [wru (by omega),aq (by omega),Int.toNat_natCast,lz (by omega),if_pos (by omega),qR _ _ (by omega)]
     simp only [obnd]
     rw [f2]
     simp only
     rw [show (GShow.mk s.nodes s.ties s.horizon)=s from rfl,show (GState.mk x.now x.times x.values)=x from rfl,xV hx (by omega) (by omega) a3]
     simp only
     rw [e]
     simp only
     rw [wr (by omega) (by omega)]
    have key:=gS (body:=gO rec s.nodes s.ties s.horizon x.now x.times x.values (kE s x) (mayL s x)) (aO s x) (fun ties=>anyB (win s) s (endX s x ties)) (fun i=>(i:Int)) (rT:=.inl ()) (rF:=.inr false) ?_ ?_ ?_
    ·rw [show ((0:Nat):Int)=0 from rfl] at key
     rw [key,hw]
     cases (aO s x).all (fun ties=>anyB (win s) s (endX s x ties)) <;> rfl
    ·intro i hi hq
     rw [step i hi,hq];rfl
    ·intro i hi hq
     rw [step i hi,hq];rfl
    ·unfold gO
     try simp only
     rw [wru (by omega),aq (by omega),Int.toNat_natCast,lz (by omega),if_neg (by omega)]
   ·simp only [if_true]
    rw [hbw rfl]
  ·rw [ho] at hw
   rw [hw];rfl
 ·rw [hb] at hw
  rw [hw];rfl
theorem xg {s:GShow}(hs:aM s):∀ (n:Nat) (t:Int),12≤(n:Int)+t→xZ s t (ky n)
 | 0,t,h=>by
  intro x hx ht
  have:=(ba hx).now
  have:=(ba hx).right.hor
  omega
 | n+1,t,h=>by
  intro x hx ht
  exact DC hs hx (by rw [ht];exact xg hs n (t+1) (by omega))
theorem GJ {s:GShow}(hs:aM s)(t:Int)(h:0≤t):xZ s t m_spec_l15Win:=xg hs 40 t (by omega)
theorem Bt {s:GShow}(hs:aM s){y:GState}(h:MomR s y){nodes:List Int}(hn:nodes∈decL s y):nr s y nodes=some (ca (win s) s y nodes):=
 ya hs (GJ hs _ (by have:=h.now;omega)) h hn
end Go.Proofs.QB
set_option maxRecDepth 100000
namespace Go.Proofs.QB
open Go
section
variable {s:GShow} {y:GState}
end
def sg (lazy:Bool)(l:List (List Int))(p:List Int→Bool):Option (List Int):=if lazy=true then l.reverse.find? p else l.find? p
end Go.Proofs.QB
set_option maxRecDepth 100000
namespace Go.Proofs.QB
open Go
theorem Iv (log:List GEntry)(hl:log.length≤1048576)(he:∀ e,e∈log→FitE e):lp log=some log:=by
 unfold lp
 have key:ar (iA log ((log.length:Nat):Int)) (((0:Nat):Int),log.take 0)=some log:=by
  refine aG log.length (fun i=>((i:Int),log.take i)) ?_ ?_
  ·intro i hi
   have hf:=he _ (List.getElem_mem hi)
   unfold iA
   try simp only
   rw [if_pos (by omega),az hi]
   simp only [obnd]
   rw [ik _ hf.ties,ik _ hf.nodes,ik _ hf.values]
   simp only
   rw [aq (by rw [List.length_take];omega),aq (by rw [List.length_take];omega),wr (by omega) (by omega),List.take_succ_eq_append_getElem hi];rfl
  ·unfold iA
   try simp only
   rw [if_neg (by omega),List.take_length]
 simp only [Int.natCast_zero,List.take_zero] at key
 rw [key];rfl
theorem GK (d:GDesk)(h:FitD d):ip d=some d:=by
 unfold ip
 rw [GA _ h.sh]
 simp only [obnd]
 rw [qS _ h.st.times h.st.values]
 simp only
 rw [Iv _ h.log h.entry]
theorem wM (d:GDesk)(h:FitD d):gP d=some d:=by
 have hl:=h.log
 unfold gP
 rw [Bg _ h.sh]
 simp only [obnd]
 rw [qT _ h.st.times h.st.values]
 simp only
 have key:ar (dK d.log ((d.log.length:Nat):Int) d.show_.horizon d.state.now d.lazy d.show_.nodes d.show_.ties d.state.times d.state.values) (((0:Nat):Int),d.log.take 0)=some d.log:=by
  refine aG d.log.length (fun i=>((i:Int),d.log.take i)) ?_ ?_
  ·intro i hi
   have hf:=h.entry _ (List.getElem_mem hi)
   have f1:=hf.ties
   have f2:=hf.nodes
   have f3:=hf.values
   unfold dK
   try simp only
   rw [if_pos (by omega),az hi]
   simp only [obnd]
   unfold mE
   rw [aq (by omega),aq (by omega),aq (by omega),aq (by omega),aq (by omega),aq (by omega)]
   simp only
   rw [aq (by rw [List.length_take];omega),aq (by rw [List.length_take];omega),wr (by omega) (by omega),List.take_succ_eq_append_getElem hi];rfl
  ·unfold dK
   try simp only
   rw [if_neg (by omega),List.take_length]
 simp only [Int.natCast_zero,List.take_zero] at key
 rw [key]
def pmB (values:List Int):Bool:=decide (values.length=3)&&values.all (fun v=>decide (v=1) || decide (v=-1))
noncomputable def aW (d:GDesk)(ties values:List Int):Int:=
 if dg d=true then (if pmB values=true then (if bT d.show_ d.state=true then 2 else if fX d.show_ d.state=true then 2 else if d.show_.horizon<d.state.now then 2 else if ties∈aO d.show_ d.state then 0 else 3) else 1) else 1
def cm (values ps:List Int):List Int:=ps.map (fun p=>tm values (p - 1))
def litL (values ps:List Int):List Int:=ps.map (fun p=>p*tm values (p - 1))
noncomputable def finD (d:GDesk)(ties values nodes:List Int):GDesk:=
 ⟨d.show_,obsX (decX (endX d.show_ d.state ties) nodes) (aB d.show_ nodes) (cm values (aB d.show_ nodes)),d.lazy,d.log++[⟨d.state.now,ties,nodes,litL values (aB d.show_ nodes)⟩]⟩
noncomputable def lS (d:GDesk)(ties values:List Int)(refused:Int)(c:Option (List Int)):GDesk × List Int × Int:=
 if aW d ties values=0 then (match c with | some nd=>(finD d ties values nd,nd,0) | none=>(d,[],refused)) else (d,[],aW d ties values)
theorem jb {d:GDesk}(h:dg d=true):aD d.show_ d.state=true:=by
 unfold dg at h
 simp only [Bool.and_eq_true] at h
 exact h.1.1.1
theorem lM {d:GDesk}{ties values:List Int}(h:aW d ties values=0):dg d=true∧pmB values=true∧ties∈aO d.show_ d.state∧bT d.show_ d.state=false∧fX d.show_ d.state=false∧¬ d.show_.horizon<d.state.now:=by
 unfold aW at h
 split at h
 ·rename_i h1
  split at h
  ·rename_i h2
   split at h
   ·omega
   ·rename_i h3
    split at h
    ·omega
    ·rename_i h4
     split at h
     ·omega
     ·rename_i h5
      split at h
      ·rename_i h6
       exact ⟨h1,h2,h6,by simpa using h3,by simpa using h4,h5⟩
      ·omega
  ·omega
 ·omega
theorem FN {values:List Int}(h:pmB values=true):values.length=3∧∀ v,v∈values→v=1∨v=-1:=by
 unfold pmB at h
 rw [Bool.and_eq_true,decide_eq_true_eq,List.all_eq_true] at h
 exact ⟨h.1,fun v hv=>by have:=h.2 v hv;simpa using this⟩
theorem EC {values:List Int}(h:pmB values=true){k:Int}(h0:0≤k)(h1:k<3):tm values k=1∨tm values k=-1:=by
 obtain ⟨h2,h3⟩:=FN h
 unfold tm
 rw [List.getElem?_eq_getElem (show k.toNat<values.length by omega)]
 exact h3 _ (List.getElem_mem _)
theorem OU {values:List Int}(h3:values.length=3):values.any (fun v=>!(decide (v=1) || decide (v=-1)))=!pmB values:=by
 unfold pmB
 rw [decide_eq_true h3,Bool.true_and,List.any_eq_not_all_not]
 simp
theorem FO (v:Int):dT v=some (!(decide (v=1) || decide (v=-1))):=by
 unfold dT
 by_cases h:v=1
 ·rw [if_pos h,decide_eq_true h];rfl
 ·rw [if_neg h,decide_eq_false h]
  by_cases h2:v=-1
  ·rw [decide_eq_true h2,decide_eq_false (by simpa using h2)];rfl
  ·rw [decide_eq_false h2,decide_eq_true h2];rfl
theorem GL {values ps:List Int}(hv:pmB values=true)(hp:∀ p,p∈ps→1≤p∧p≤3)(hl:ps.length≤3):iu ps (cm values ps)=some (litL values ps):=by
 unfold iu
 have key:ar (ic (cm values ps) ps ((ps.length:Nat):Int)) (((0:Nat):Int),litL values (ps.take 0))=some (litL values ps):=by
  refine aG ps.length (fun i=>((i:Int),litL values (ps.take i))) ?_ ?_
  ·intro i hi
   have hb:=hp _ (List.getElem_mem hi)
   have ht:=EC hv (k:=ps[i] - 1) (by omega) (by omega)
   have hl1:(litL values (ps.take i)).length≤3:=by unfold litL;rw [List.length_map,List.length_take];omega
   have hsl:(cm values ps).length=ps.length:=by unfold cm;simp
   unfold ic
   try simp only
   rw [if_pos (by omega),az hi,az (show i<(cm values ps).length by omega)]
   simp only [obnd]
   have hs:(cm values ps)[i]'(by omega)=tm values (ps[i] - 1):=by unfold cm;simp
   rw [hs,aq (by omega),aq (by omega),wr (x:=(i:Int)+1) (by omega) (by omega),wr (x:=ps[i]*tm values (ps[i] - 1)) (by rcases ht with h | h <;> rw [h] <;> omega) (by rcases ht with h | h <;> rw [h] <;> omega)]
   congr 3
   unfold litL
   rw [List.take_succ_eq_append_getElem hi,List.map_append];rfl
  ·unfold ic
   try simp only
   rw [if_neg (by omega),List.take_length]
 simp only [Int.natCast_zero,List.take_zero] at key
 rw [show litL values []=[] from rfl] at key
 rw [key];rfl
theorem tM {values ps:List Int}(hv:pmB values=true)(hp:∀ p,p∈ps→1≤p∧p≤3):(cm values ps).length=ps.length∧∀ v,v∈cm values ps→v=1∨v=-1:=by
 refine ⟨by unfold cm;simp,fun v hm=>?_⟩
 unfold cm at hm
 rw [List.mem_map] at hm
 obtain ⟨p,hpm,rfl⟩:=hm
 have:=hp p hpm
 exact EC hv (by omega) (by omega)
theorem wN (d:GDesk)(ties values:List Int)(refused:Int)(nodes:List Int)(hf:FitD d)(ht:ties.length≤1048576)(hvl:values.length≤1048576)(c:Option (List Int))(hmem:∀ nd,c=some nd→nd∈decL d.show_ (endX d.show_ d.state ties))
  (hc:aW d ties values=0→∃ r,fq d.show_ [] (endX d.show_ d.state ties) nodes=some r∧r.2.1=c.isSome∧∀ nd,c=some nd→r.1=nd) :
  bl d ties values refused nodes=some (lS d ties values refused c):=by
 have hs:=hf.sh.small
 have hlog:=hf.log
 have hg0:=@lM d ties values
 unfold lS
 unfold bl
 rw [GK d hf]
 simp only [obnd]
 rw [vA d hf]
 simp only
 cases hd:dg d
 ·have e:aW d ties values=1:=by unfold aW;rw [hd];rfl
  rw [e];rfl
 have hx:=jb hd
 have hR:=ba hx
 simp only [if_true]
 by_cases h3:values.length=3
 rotate_left
 ·have e:aW d ties values=1:=by unfold aW pmB;rw [hd,decide_eq_false h3];rfl
  rw [if_neg (by omega),e];rfl
 rw [if_pos (by omega),lT values _ (fun v=>!(decide (v=1) || decide (v=-1))) (by unfold Cnt;omega) (fun v _=>FO v),OU h3]
 simp only
 cases hp:pmB values
 ·have e:aW d ties values=1:=by unfold aW;rw [hd,hp];rfl
  rw [e];rfl
 simp only [Bool.not_true,Bool.false_eq_true,if_false]
 rw [sf hs hR]
 simp only
 cases hb:bT d.show_ d.state
 rotate_left
 ·have e:aW d ties values=2:=by unfold aW;rw [hd,hp,hb];rfl
  rw [e];rfl
 simp only [Bool.false_eq_true,if_false]
 rw [tK hs hR]
 simp only
 cases ho:fX d.show_ d.state
 rotate_left
 ·have e:aW d ties values=2:=by unfold aW;rw [hd,hp,hb,ho];rfl
  rw [e];rfl
 simp only [Bool.false_eq_true,if_false]
 by_cases hh:d.show_.horizon<d.state.now
 ·have e:aW d ties values=2:=by unfold aW;rw [hd,hp,hb,ho,if_pos hh];rfl
  rw [if_pos hh,e];rfl
 rw [if_neg hh,tJ hx]
 simp only
 have hel:=mZ (x:=d.state) hR.ok
 rw [rV _ _ (by unfold Cnt;omega) (by unfold Cnt;omega)]
 simp only
 by_cases hm:ties∈aO d.show_ d.state
 rotate_left
 ·have e:aW d ties values=3:=by unfold aW;rw [hd,hp,hb,ho,if_neg hh,if_neg hm];rfl
  rw [decide_eq_false hm,e];rfl
 have e:aW d ties values=0:=by unfold aW;rw [hd,hp,hb,ho,if_neg hh,if_pos hm];rfl
 obtain ⟨a1,a2,a3⟩:=fu hR.ok hm
 have hM:=kb hx hm
 have hv3:=(aQ hR.val).1
 rw [decide_eq_true hm,if_pos rfl,wH hx (by omega) (by omega) a3]
 simp only
 unfold dy
 simp only
 obtain ⟨r,e1,e2,e3⟩:=hc e
 rw [e1,e]
 simp only [if_true]
 rw [e2]
 cases c with
 | none=>rfl
 | some nd=>
  have hn:=hmem nd rfl
  obtain ⟨n1,n2,n3⟩:=ct hM.right hn
  have hps:∀ p,p∈aB d.show_ nd→1≤p∧p≤3:=fun p hp=>⟨(bd hp).1,(bd hp).2.1⟩
  have hpl:=lL d.show_ nd
  simp only [Option.isSome_some,if_true]
  rw [e3 nd rfl,wJ hM n1 n2 n3]
  simp only
  have key:ar (aS ties values nd (((aB d.show_ nd).length:Nat):Int) d.show_.horizon d.state.now d.lazy d.state.now d.state.times d.state.values (decX (endX d.show_ d.state ties) nd).now d.show_.nodes d.show_.ties d.state.times d.state.values d.log (decX (endX d.show_ d.state ties) nd).times (decX (endX d.show_ d.state ties) nd).values (aB d.show_ nd)) (((0:Nat):Int),cm values ((aB d.show_ nd).take 0))=some (cm values (aB d.show_ nd)):=by
   refine aG (aB d.show_ nd).length (fun i=>((i:Int),cm values ((aB d.show_ nd).take i))) ?_ ?_
   ·intro i hi
    have hb:=hps _ (List.getElem_mem hi)
    have hsl:(cm values ((aB d.show_ nd).take i)).length≤3:=by unfold cm;rw [List.length_map,List.length_take];omega
    unfold aS
    try simp only
    rw [if_pos (by omega),az hi]
    simp only [obnd]
    rw [wr (x:=(aB d.show_ nd)[i] - 1) (by omega) (by omega),bp (by omega) (by omega)]
    simp only
    rw [aq (by omega),aq (by omega),wr (by omega) (by omega)]
    congr 3
    unfold cm
    rw [List.take_succ_eq_append_getElem hi,List.map_append];rfl
   ·unfold aS
    try simp only
    rw [if_neg (by omega),List.take_length]
  simp only [Int.natCast_zero,List.take_zero] at key
  rw [show cm values []=[] from rfl] at key
  rw [key]
  simp only
  obtain ⟨s1,s2⟩:=tM hp hps
  have hnow:=hR.now
  have hhor:=hR.right.hor
  have hln:=hM.len
  have h7:=hM.right.nodes
  rw [(mr (decX (endX d.show_ d.state ties) nd) (aB d.show_ nd) (cm values (aB d.show_ nd)) (by show 0≤d.state.now∧d.state.now≤1000;omega) (by show (aZ _ _ _ _).length≤_;rw [bN];omega) hv3 hps s1 (by omega)).1]
  simp only
  rw [ik _ ht,ik _ (by omega),GL hp hps hpl]
  simp only
  rw [aq (by omega),aq (by omega)]
  rfl
end Go.Proofs.QB
set_option maxRecDepth 100000
namespace Go.Proofs.QB
open Go
end Go.Proofs.QB
set_option maxRecDepth 100000
namespace Go.Proofs.QB
open Go
noncomputable def ED (d:GDesk)(ties:List Int):Option (List Int):=sg d.lazy (decL d.show_ (endX d.show_ d.state ties)) (ca (win d.show_) d.show_ (endX d.show_ d.state ties))
noncomputable def manC (d:GDesk)(ties nodes:List Int):Option (List Int):=if nodes∈decL d.show_ (endX d.show_ d.state ties)∧ca (win d.show_) d.show_ (endX d.show_ d.state ties) nodes=true then some nodes else none
theorem yb {lazy:Bool}{l:List (List Int)}{p:List Int→Bool}{nd:List Int}(h:sg lazy l p=some nd):nd∈l∧p nd=true:=by
 unfold sg at h
 split at h
 ·exact ⟨by simpa using List.mem_of_find?_eq_some h,List.find?_some h⟩
 ·exact ⟨List.mem_of_find?_eq_some h,List.find?_some h⟩
theorem vq (d:GDesk)(ties nodes values:List Int)(hf:FitD d)(ht:ties.length≤1048576)(hn:nodes.length≤1048576)(hv:values.length≤1048576):bZ d ties nodes values=some ((lS d ties values 4 (manC d ties nodes)).1,(lS d ties values 4 (manC d ties nodes)).2.2):=by
 have hs:=hf.sh.small
 unfold bZ
 rw [wN d ties values 4 nodes hf ht hv (manC d ties nodes) (fun nd h=>by unfold manC at h;split at h;rename_i hc;cases h;exact hc.1;cases h) ?_]
 ·rfl
 ·intro h0
  obtain ⟨g1,_,g3,_⟩:=lM h0
  have hM:=kb (jb g1) g3
  have hl:=rX hM.right (endX d.show_ d.state ties)
  unfold fq manC
  rw [qU hs hM]
  simp only [obnd]
  rw [rV _ _ (by unfold Cnt;omega) (by unfold Cnt;omega)]
  simp only
  by_cases hm:nodes∈decL d.show_ (endX d.show_ d.state ties)
  ·rw [decide_eq_true hm,if_pos rfl]
   obtain ⟨k',_,e⟩:=vB (Cs hs _ (by have:=hM.now;omega)) hM hm (xY d.show_)
   unfold eF
   rw [e]
   simp only
   refine ⟨_,rfl,?_⟩
   cases hsf:ca (win d.show_) d.show_ (endX d.show_ d.state ties) nodes
   ·rw [if_neg (by simp)]
    exact ⟨rfl,fun nd h=>by cases h⟩
   ·rw [if_pos ⟨hm,rfl⟩]
    exact ⟨rfl,fun nd h=>by cases h;rfl⟩
  ·rw [decide_eq_false hm,if_neg (by simp),if_neg (fun h=>hm h.1)]
   exact ⟨_,rfl,rfl,fun nd h=>by cases h⟩
theorem yR {s:GShow}{x:GState}(hs:aM s)(hx:aD s x=true)(ties:List Int)(ht:ties.length≤1048576):cI s x ties=some (if ties∈aO s x then (endX s x ties,true) else (jn,false)):=by
 have hR:=ba hx
 have hv3:=(aQ hR.val).1
 have hln:=hR.len
 have h7:=hR.right.nodes
 have hel:=mZ (x:=x) hR.ok
 unfold cI
 rw [uC hs hx (by omega) (by omega)]
 simp only [obnd]
 rw [zL _ _ (by unfold Cnt;omega) (fun l hl=>by have:=(fu hR.ok hl).2.1;unfold Cnt;omega)]
 simp only
 by_cases hm:ties∈aO s x
 ·obtain ⟨a1,a2,a3⟩:=fu hR.ok hm
  rw [decide_eq_true hm,if_pos rfl,if_pos hm,xV hx (by omega) (by omega) a3]
 ·rw [decide_eq_false hm,if_neg (by simp),if_neg hm];rfl
theorem GM (d:GDesk)(ties values:List Int)(hf:FitD d)(ht:ties.length≤1048576)(hvl:values.length≤1048576):kv d ties values=some (if aW d ties values=0 then (endX d.show_ d.state ties,0) else (jn,aW d ties values)):=by
 have hs:=hf.sh.small
 unfold kv
 rw [GE d hf]
 simp only [obnd]
 cases hd:dg d
 ·have e:aW d ties values=1:=by unfold aW;rw [hd];rfl
  rw [e];rfl
 have hx:=jb hd
 have hR:=ba hx
 simp only [if_true]
 by_cases h3:values.length=3
 rotate_left
 ·have e:aW d ties values=1:=by unfold aW pmB;rw [hd,decide_eq_false h3];rfl
  rw [if_neg (by omega),e];rfl
 rw [if_pos (by omega)]
 have key:=gS (body:=eP ties values ((values.length:Nat):Int) d.show_.nodes d.show_.ties d.show_.horizon d.state.now d.state.times d.state.values d.lazy d.log) values (fun v=>decide (v=1) || decide (v=-1)) (fun i=>(i:Int)) (rT:=.inl ()) (rF:=.inr (GState.mk 0 [] [],1)) ?_ ?_ ?_
 ·rw [show ((0:Nat):Int)=0 from rfl] at key
  rw [key]
  simp only
  cases hp:pmB values
  ·have e:aW d ties values=1:=by unfold aW;rw [hd,hp];rfl
   have hall:values.all (fun v=>decide (v=1) || decide (v=-1))=false:=by unfold pmB at hp;rwa [decide_eq_true h3,Bool.true_and] at hp
   rw [hall,e];rfl
  have hall:values.all (fun v=>decide (v=1) || decide (v=-1))=true:=by unfold pmB at hp;rwa [decide_eq_true h3,Bool.true_and] at hp
  rw [hall]
  simp only [if_true]
  rw [xX hs hR]
  simp only
  cases hb:bT d.show_ d.state
  rotate_left
  ·have e:aW d ties values=2:=by unfold aW;rw [hd,hp,hb];rfl
   rw [e];rfl
  simp only [Bool.false_eq_true,if_false]
  rw [Br hs hR]
  simp only
  cases ho:fX d.show_ d.state
  rotate_left
  ·have e:aW d ties values=2:=by unfold aW;rw [hd,hp,hb,ho];rfl
   rw [e];rfl
  simp only [Bool.false_eq_true,if_false]
  by_cases hh:d.show_.horizon<d.state.now
  ·have e:aW d ties values=2:=by unfold aW;rw [hd,hp,hb,ho,if_pos hh];rfl
   rw [if_pos hh,e];rfl
  rw [if_neg hh,yR hs hx ties ht]
  simp only
  by_cases hm:ties∈aO d.show_ d.state
  ·have e:aW d ties values=0:=by unfold aW;rw [hd,hp,hb,ho,if_neg hh,if_pos hm];rfl
   rw [if_pos hm,e];rfl
  ·have e:aW d ties values=3:=by unfold aW;rw [hd,hp,hb,ho,if_neg hh,if_neg hm];rfl
   rw [if_neg hm,e];rfl
 ·intro i hi hq
  unfold eP
  try simp only
  rw [if_pos (by omega),az hi]
  simp only [obnd]
  rw [wr (by omega) (by omega)]
  by_cases h1:values[i]=1
  ·rw [if_pos h1];rfl
  ·rw [if_neg h1,if_pos (by simpa [h1] using hq)];rfl
 ·intro i hi hq
  unfold eP
  try simp only
  rw [if_pos (by omega),az hi]
  simp only [obnd]
  rw [Bool.or_eq_false_iff,decide_eq_false_iff_not,decide_eq_false_iff_not] at hq
  rw [if_neg hq.1,if_neg hq.2]
 ·unfold eP
  try simp only
  rw [if_neg (by omega)]
theorem FP (d:GDesk)(ties values nd:List Int)(hf:FitD d)(ht:ties.length≤1048576)(h0:aW d ties values=0)(hn:nd∈decL d.show_ (endX d.show_ d.state ties)) :
  jJ d ties (endX d.show_ d.state ties) nd values=some (finD d ties values nd):=by
 have hs:=hf.sh.small
 have hlog:=hf.log
 obtain ⟨g1,hp,g3,_⟩:=lM h0
 have hx:=jb g1
 have hR:=ba hx
 have hM:=kb hx g3
 have hv3:=(aQ hR.val).1
 obtain ⟨p3,_⟩:=FN hp
 obtain ⟨n1,n2,n3⟩:=ct hM.right hn
 have hps:∀ p,p∈aB d.show_ nd→1≤p∧p≤3:=fun p hp=>⟨(bd hp).1,(bd hp).2.1⟩
 have hpl:=lL d.show_ nd
 unfold jJ
 rw [wM d hf]
 simp only [obnd]
 rw [uF hs hM n2 n3]
 simp only
 have key:ar (gr ties nd values (((aB d.show_ nd).length:Nat):Int) (endX d.show_ d.state ties).now (endX d.show_ d.state ties).times (endX d.show_ d.state ties).values d.show_.horizon d.state.now d.lazy (decX (endX d.show_ d.state ties) nd).now d.show_.nodes d.show_.ties d.state.times d.state.values d.log (decX (endX d.show_ d.state ties) nd).times (decX (endX d.show_ d.state ties) nd).values (aB d.show_ nd)) (((0:Nat):Int),cm values ((aB d.show_ nd).take 0),litL values ((aB d.show_ nd).take 0))=some (cm values (aB d.show_ nd),litL values (aB d.show_ nd)):=by
  refine aG (aB d.show_ nd).length (fun i=>((i:Int),cm values ((aB d.show_ nd).take i),litL values ((aB d.show_ nd).take i))) ?_ ?_
  ·intro i hi
   have hb:=hps _ (List.getElem_mem hi)
   have htm:=EC hp (k:=(aB d.show_ nd)[i] - 1) (by omega) (by omega)
   have hsl:(cm values ((aB d.show_ nd).take i)).length≤3:=by unfold cm;rw [List.length_map,List.length_take];omega
   have hll:(litL values ((aB d.show_ nd).take i)).length≤3:=by unfold litL;rw [List.length_map,List.length_take];omega
   unfold gr
   try simp only
   rw [if_pos (by omega),az hi]
   simp only [obnd]
   rw [wr (x:=(aB d.show_ nd)[i] - 1) (by omega) (by omega),bp (by omega) (by omega)]
   simp only
   rw [aq (by omega),aq (by omega),aq (by omega),aq (by omega),wr (x:=(i:Int)+1) (by omega) (by omega),wr (x:=(aB d.show_ nd)[i]*tm values ((aB d.show_ nd)[i] - 1)) (by rcases htm with h | h <;> rw [h] <;> omega) (by rcases htm with h | h <;> rw [h] <;> omega)]
   have e1:cm values ((aB d.show_ nd).take (i+1))=cm values ((aB d.show_ nd).take i)++[tm values ((aB d.show_ nd)[i] - 1)]:=by
    unfold cm;rw [List.take_succ_eq_append_getElem hi,List.map_append];rfl
   have e2:litL values ((aB d.show_ nd).take (i+1))=litL values ((aB d.show_ nd).take i)++[(aB d.show_ nd)[i]*tm values ((aB d.show_ nd)[i] - 1)]:=by
    unfold litL;rw [List.take_succ_eq_append_getElem hi,List.map_append];rfl
   rw [e1,e2];rfl
  ·unfold gr
   try simp only
   rw [if_neg (by omega),List.take_length]
 simp only [Int.natCast_zero,List.take_zero] at key
 rw [show cm values []=[] from rfl,show litL values []=[] from rfl] at key
 rw [key]
 simp only
 obtain ⟨s1,s2⟩:=tM hp hps
 have hnow:=hR.now
 have hhor:=hR.right.hor
 have hln:=hM.len
 have h7:=hM.right.nodes
 rw [aq (by omega),aq (by omega),aq (by omega),aq (by omega),aq (by omega),aq (by omega),(mr (decX (endX d.show_ d.state ties) nd) (aB d.show_ nd) (cm values (aB d.show_ nd)) (by show 0≤d.state.now∧d.state.now≤1000;omega) (by show (aZ _ _ _ _).length≤_;rw [bN];omega) hv3 hps s1 (by omega)).2]
 rfl
theorem FQ (d:GDesk)(y:GState)(without:Int)(hf:FitD d)(hM:MomR d.show_ y):jI d y without=some (match sg d.lazy (decL d.show_ y) (fun nd=>!decide (without∈nd)&&ca (win d.show_) d.show_ y nd) with | some nd=>(nd,true) | none=>([],false)):=by
 have hs:=hf.sh.small
 have hl:=rX hM.right y
 unfold jI
 rw [wd hs hM]
 simp only [obnd]
 have hlen:∀ {nd},nd∈decL d.show_ y→nd.length≤7:=fun h=>(ct hM.right h).2.1
 have e0:sg d.lazy (decL d.show_ y) (fun nd=>!decide (without∈nd)&&ca (win d.show_) d.show_ y nd)=(if d.lazy=true then (decL d.show_ y).reverse else decL d.show_ y).find? (fun nd=>!decide (without∈nd)&&ca (win d.show_) d.show_ y nd):=by
  unfold sg;split <;> rfl
 rw [e0]
 generalize hpd:(fun nd=>!decide (without∈nd)&&ca (win d.show_) d.show_ y nd)=p
 have hp0:∀ nd,p nd=(!decide (without∈nd)&&ca (win d.show_) d.show_ y nd):=fun nd=>by rw [← hpd]
 clear hpd
 generalize hL:(if d.lazy=true then (decL d.show_ y).reverse else decL d.show_ y)=L
 have hel:L.length=(decL d.show_ y).length:=by rw [← hL];split <;> simp
 have g1:d.lazy=false→∀ i (hi:i<L.length),L[i]=(decL d.show_ y)[i]'(by omega):=by
  intro hz i hi
  subst hL
  simp [hz]
 have g2:d.lazy=true→∀ i (hi:i<L.length),L[i]=(decL d.show_ y)[(decL d.show_ y).length - 1 - i]'(by omega):=by
  intro hz i hi
  subst hL
  simp [hz]
 clear hL
 have step:∀ i (hi:i<L.length),dW without (((decL d.show_ y).length:Nat):Int) d.show_.nodes d.show_.ties d.show_.horizon d.state.now d.state.times d.state.values d.lazy d.log y.now y.times y.values (decL d.show_ y) (i:Int)=(if p L[i]=true then some (.done (.inr (L[i],true))) else some (.next ((i:Int)+1))):=by
  intro i hi
  rw [hel] at hi
  unfold dW
  try simp only
  rw [if_pos (by omega),az hi]
  simp only [obnd]
  rw [wr (x:=(i:Int)+1) (by omega) (by omega)]
  cases hz:d.lazy
  ·simp only [Bool.false_eq_true,if_false]
   rw [g1 hz i (by omega),hp0]
   have hmem:=List.getElem_mem hi
   have h7:=hlen hmem
   rw [nb _ _ (by unfold Cnt;omega)]
   simp only
   by_cases hw:without∈(decL d.show_ y)[i]
   ·rw [decide_eq_true hw];rfl
   ·rw [decide_eq_false hw]
    simp only [Bool.false_eq_true,if_false,Bool.not_false,Bool.true_and]
    rw [show (GShow.mk d.show_.nodes d.show_.ties d.show_.horizon)=d.show_ from rfl,show (GState.mk y.now y.times y.values)=y from rfl,Bt hs hM hmem]
    simp only
    rw [aq (by omega),aq (by omega)]
  ·simp only [if_true]
   have hj:(decL d.show_ y).length - 1 - i<(decL d.show_ y).length:=by omega
   rw [wr (x:=(((decL d.show_ y).length:Nat):Int) - 1) (by omega) (by omega),wr (by omega) (by omega),show (((decL d.show_ y).length:Nat):Int) - 1 - (i:Int)=(((decL d.show_ y).length - 1 - i:Nat):Int) by omega,az hj]
   simp only
   rw [g2 hz i (by omega),hp0]
   have hmem:=List.getElem_mem hj
   have h7:=hlen hmem
   rw [nb _ _ (by unfold Cnt;omega)]
   simp only
   by_cases hw:without∈(decL d.show_ y)[(decL d.show_ y).length - 1 - i]
   ·rw [decide_eq_true hw];rfl
   ·rw [decide_eq_false hw]
    simp only [Bool.false_eq_true,if_false,Bool.not_false,Bool.true_and]
    rw [show (GShow.mk d.show_.nodes d.show_.ties d.show_.horizon)=d.show_ from rfl,show (GState.mk y.now y.times y.values)=y from rfl,Bt hs hM hmem]
    simp only
    rw [aq (by omega),aq (by omega)]
 have key:=cp (body:=dW without (((decL d.show_ y).length:Nat):Int) d.show_.nodes d.show_.ties d.show_.horizon d.state.now d.state.times d.state.values d.lazy d.log y.now y.times y.values (decL d.show_ y)) (s0:=(0:Int)) L.length
  (fun (i:Nat) (st:Int)=>st=(i:Int)∧∀ j (hj:j<L.length),j<i→p L[j]=false)
  (fun r=>r=(match L.find? p with | some nd=>.inr (nd,true) | none=>.inl ())) ⟨rfl,fun j _ h=>absurd h (by omega)⟩ ?_ ?_
 ·obtain ⟨r,hr,hp1⟩:=key
  rw [hr,hp1]
  cases L.find? p <;> rfl
 ·rintro i a hi ⟨rfl,hall⟩
  rw [step i hi]
  cases hq:p L[i]
  ·left
   refine ⟨_,if_neg (by simp),rfl,fun j hj hlt=>?_⟩
   rcases Nat.lt_or_ge j i with h | h
   ·exact hall j hj h
   ·obtain rfl:j=i:=by omega
    exact hq
  ·right
   refine ⟨_,if_pos rfl,?_⟩
   have:L.find? p=some L[i]:=by
    rw [List.find?_eq_some_iff_getElem]
    exact ⟨hq,i,hi,rfl,fun j hj=>by have h:=hall j (by omega) hj;show (!_)=true;rw [h];rfl⟩
   rw [this]
 ·rintro a ⟨rfl,hall⟩
  refine ⟨.inl (),?_,?_⟩
  ·unfold dW
   try simp only
   rw [if_neg (by rw [hel];omega)]
  ·have:L.find? p=none:=by
    rw [List.find?_eq_none]
    intro x hx
    obtain ⟨j,hj,rfl⟩:=List.getElem_of_mem hx
    have h:=hall j hj hj
    rw [h];simp
   rw [this]
theorem GN {lazy:Bool}{l:List (List Int)}{p q:List Int→Bool}(h:∀ nd,nd∈l→p nd=q nd):sg lazy l p=sg lazy l q:=by
 have key:∀ l:List (List Int),(∀ nd,nd∈l→p nd=q nd)→l.find? p=l.find? q:=by
  intro l
  induction l with
  | nil=>intro _;rfl
  | cons a l ih=>
   intro h
   simp only [List.find?_cons]
   rw [h a (by simp),ih (fun nd hn=>h nd (by simp [hn]))]
 unfold sg
 rw [key l h,key l.reverse (fun nd hn=>h nd (by simpa using hn))]
theorem DD (d:GDesk)(ties values:List Int)(hf:FitD d)(ht:ties.length≤1048576)(hv:values.length≤1048576):kz d ties values=some (lS d ties values 5 (ED d ties)):=by
 unfold kz lS
 rw [GM d ties values hf ht hv]
 simp only [obnd]
 by_cases h0:aW d ties values=0
 ·obtain ⟨g1,_,g3,_⟩:=lM h0
  have hM:=kb (jb g1) g3
  rw [if_pos h0,if_pos h0]
  simp only [if_true]
  rw [FQ d _ _ hf hM]
  have hc:sg d.lazy (decL d.show_ (endX d.show_ d.state ties)) (fun nd=>!decide ((-1:Int)∈nd)&&ca (win d.show_) d.show_ (endX d.show_ d.state ties) nd)=ED d ties:=by
   refine GN ?_
   intro nd hnd
   have:¬ (-1:Int)∈nd:=by
    intro hm
    obtain ⟨i,_,e,_⟩:=nx ((ct hM.right hnd).2.2 _ hm)
    omega
   rw [decide_eq_false this];rfl
  rw [hc]
  cases hpk:ED d ties with
  | none=>
   simp only [Bool.false_eq_true,if_false]
   rw [wM d hf]
  | some nd=>
   simp only [if_true]
   rw [FP d ties values nd hf ht h0 (yb hpk).1]
 ·rw [if_neg h0,if_neg h0]
  simp only
  rw [if_neg h0,wM d hf]
theorem CS (d:GDesk)(ties values:List Int)(refused:Int)(c:Option (List Int))(hf:FitD d)(ht:ties.length≤1048576)(hc:aW d ties values=0→∀ nd,c=some nd→nd∈decL d.show_ (endX d.show_ d.state ties)) :
  FitD (lS d ties values refused c).1∧(lS d ties values refused c).2.1.length≤7:=by
 unfold lS
 by_cases h0:aW d ties values=0
 ·rw [if_pos h0]
  cases c with
  | none=>exact ⟨hf,by simp⟩
  | some nd=>
   obtain ⟨g1,hp,g3,_⟩:=lM h0
   have hx:=jb g1
   have hR:=ba hx
   have hM:=kb hx g3
   have hnd:=hc h0 nd rfl
   obtain ⟨n1,n2,n3⟩:=ct hM.right hnd
   have hlog:(d.log.length:Int)=d.state.now:=by
    unfold dg at g1
    simp only [Bool.and_eq_true,decide_eq_true_eq] at g1
    exact g1.1.1.2
   have hnow:=hR.now
   have hhor:=hR.right.hor
   have hln:=hM.len
   have h7:=hM.right.nodes
   have hv3:=(aQ hR.val).1
   have hpl:=lL d.show_ nd
   refine ⟨⟨hf.sh,⟨?_,?_⟩,?_,?_⟩,n2⟩
   ·show (aZ _ _ _ _).length≤_
    rw [bN];omega
   ·show (setV _ _ _ _).length≤_
    rw [pf]
    show d.state.values.length≤_
    omega
   ·show (d.log++[_]).length≤_
    rw [List.length_append];simp;omega
   ·intro e he
    have he':e∈d.log++[⟨d.state.now,ties,nd,litL values (aB d.show_ nd)⟩]:=he
    rw [List.mem_append,List.mem_singleton] at he'
    rcases he' with he' | rfl
    ·exact hf.entry e he'
    ·exact ⟨ht,by show nd.length≤_;omega,by show (litL _ _).length≤_;unfold litL;rw [List.length_map];omega⟩
 ·rw [if_neg h0]
  exact ⟨hf,by simp⟩
end Go.Proofs.QB
set_option maxRecDepth 100000
namespace Go.Proofs.QB
open Go
end Go.Proofs.QB
set_option maxRecDepth 100000
set_option maxHeartbeats 1000000
namespace Go.Proofs.QB
open Go
theorem JD {d:GDesk}{ties values nd:List Int}(h0:aW d ties values=0)(hn:nd∈decL d.show_ (endX d.show_ d.state ties)):aD d.show_ (finD d ties values nd).state=true:=by
 obtain ⟨g1,hp,g3,_⟩:=lM h0
 have hM:=kb (jb g1) g3
 obtain ⟨_,_,hm⟩:=ct hM.right hn
 obtain ⟨s1,s2⟩:=tM (values:=values) (ps:=aB d.show_ nd) hp (fun p h=>⟨(bd h).1,(bd h).2.1⟩)
 exact wg hM hm s1 s2
end Go.Proofs.QB
set_option maxRecDepth 100000
set_option maxHeartbeats 1000000
namespace Go.Proofs.QB
open Go
def Bu (s:GShow)(x:GState):Bool:=if aD s x=true then (if bT s x=true then false else fX s x) else false
theorem GO (s:GShow)(x:GState)(hs:aM s)(fx:FitX x):ml s x=some (Bu s x):=by
 unfold ml Bu
 rw [ly s x hs fx.times fx.values]
 simp only [obnd]
 cases hx:aD s x
 ·rw [if_neg (by simp),if_neg (by simp)]
 ·rw [if_pos rfl,if_pos rfl,sf hs (ba hx)]
  simp only
  cases hb:bT s x
  ·rw [if_neg (by simp),if_neg (by simp),tK hs (ba hx)]
  ·rw [if_pos rfl,if_pos rfl]
end Go.Proofs.QB
set_option maxRecDepth 100000
set_option maxHeartbeats 1000000
namespace Go.Proofs.QB
open Go
theorem lit1 {p v:Int}(h1:1≤p)(h2:p≤3)(hv:v=1∨v=-1):pr (p*v)=p∧sgn (p*v)=v∧p*v≠0∧-3≤p*v∧p*v≤3:=by
 have:p=1∨p=2∨p=3:=by omega
 rcases this with rfl | rfl | rfl <;> rcases hv with rfl | rfl <;> decide
theorem Bv {values ps:List Int}(hv:pmB values=true)(hp:∀ p,p∈ps→1≤p∧p≤3){p:Int}(h:p∈ps):pr (p*tm values (p - 1))=p∧sgn (p*tm values (p - 1))=tm values (p - 1)∧p*tm values (p - 1)≠0∧-3≤p*tm values (p - 1)∧p*tm values (p - 1)≤3:=by
 have h1:=hp p h
 exact lit1 h1.1 h1.2 (EC hv (by omega) (by omega))
theorem OV {values ps:List Int}(hv:pmB values=true)(hp:∀ p,p∈ps→1≤p∧p≤3):(litL values ps).map pr=ps:=by
 unfold litL
 rw [List.map_map]
 conv=>rhs;rw [← List.map_id ps]
 exact List.map_congr_left (fun p h=>(Bv hv hp h).1)
theorem LO {values ps:List Int}(hv:pmB values=true)(hp:∀ p,p∈ps→1≤p∧p≤3):(litL values ps).map sgn=cm values ps:=by
 unfold litL cm
 rw [List.map_map]
 exact List.map_congr_left (fun p h=>(Bv hv hp h).2.1)
theorem JE {values ps:List Int}(hv:pmB values=true)(hp:∀ p,p∈ps→1≤p∧p≤3)(ha:Asc ps):bm (litL values ps)=true:=by
 have hlen:(litL values ps).length=ps.length:=List.length_map _
 have hget:∀ i,i<ps.length→(litL values ps).getD i 0=ps.getD i 0*tm values (ps.getD i 0 - 1):=by
  intro i hi
  unfold litL
  simp [hi]
 have hmem:∀ i,i<ps.length→ps.getD i 0∈ps:=by
  intro i hi
  rw [show ps.getD i 0=ps[i] by simp [hi]]
  exact List.getElem_mem hi
 unfold bm
 refine decide_eq_true ?_
 intro i hi
 rw [hlen] at hi
 unfold labP
 refine decide_eq_true ?_
 rw [hget i hi]
 obtain ⟨a1,a2,a3,a4,a5⟩:=Bv hv hp (hmem i hi)
 refine ⟨a3,a4,a5,?_⟩
 intro h0
 rw [hget (i - 1) (by omega),a1,(Bv hv hp (hmem (i - 1) (by omega))).1]
 exact zM ha hi h0
theorem zk {s:GShow}(e:GEntry):∀ (log:List GEntry) (x:GState),(aV s x log).2=true→(bE s (aV s x log).1 e).2=true→aV s x (log++[e])=((bE s (aV s x log).1 e).1,true)
 | [],x,_,h=>by
  show (if (bE s x e).2=true then aV s (bE s x e).1 [] else (jn,false))=_
  have h':(bE s x e).2=true:=h
  rw [if_pos h'];rfl
 | f::r,x,h,g=>by
  have hc:∀ l,aV s x (f::l)=if (bE s x f).2=true then aV s (bE s x f).1 l else (jn,false):=fun _=>rfl
  rw [hc] at h g
  rw [List.cons_append,hc,hc]
  by_cases he:(bE s x f).2=true
  ·rw [if_pos he] at h g
   rw [if_pos he,if_pos he]
   exact zk e r _ h g
  ·rw [if_neg he] at h;cases h
theorem FR {d:GDesk}{ties values nd:List Int}(h0:aW d ties values=0)(hn:nd∈decL d.show_ (endX d.show_ d.state ties)):dg (finD d ties values nd)=true:=by
 obtain ⟨g1,hp,g3,_⟩:=lM h0
 have hps:∀ p,p∈aB d.show_ nd→1≤p∧p≤3:=fun p h=>⟨(bd h).1,(bd h).2.1⟩
 have hst:=JD (values:=values) h0 hn
 have hg:=g1
 unfold dg at hg
 simp only [Bool.and_eq_true,decide_eq_true_eq] at hg
 obtain ⟨⟨⟨e1,e2⟩,e3⟩,e4⟩:=hg
 have hstep:bE d.show_ d.state ⟨d.state.now,ties,nd,litL values (aB d.show_ nd)⟩=((finD d ties values nd).state,true):=by
  unfold bE
  rw [if_pos ⟨rfl,g3,JE hp hps (vm _ _),hn,OV hp hps⟩]
  simp only
  rw [LO hp hps]
  rfl
 have hrep:cz d.show_ (d.log++[⟨d.state.now,ties,nd,litL values (aB d.show_ nd)⟩])=((finD d ties values nd).state,true):=by
  unfold cz at e3 e4 ⊢
  by_cases hA:aR d.show_=true
  ·rw [if_pos hA] at e3 e4 ⊢
   rw [zk _ d.log _ e3 (by rw [e4,hstep]),e4,hstep]
  ·rw [if_neg hA] at e3;cases e3
 unfold dg
 simp only [Bool.and_eq_true,decide_eq_true_eq]
 refine ⟨⟨⟨hst,?_⟩,?_⟩,?_⟩
 ·show (((d.log++[_]).length:Nat):Int)=d.state.now+1
  rw [List.length_append]
  simp only [List.length_cons,List.length_nil]
  omega
 ·show (cz d.show_ (d.log++[_])).2=true
  rw [hrep]
 ·show (cz d.show_ (d.log++[_])).1=_
  rw [hrep]
theorem JF {d:GDesk}{ties values:List Int}{refused:Int}{c:Option (List Int)}(hd:dg d=true)(hc:∀ nd,c=some nd→nd∈decL d.show_ (endX d.show_ d.state ties)):dg (lS d ties values refused c).1=true:=by
 unfold lS
 by_cases h0:aW d ties values=0
 ·rw [if_pos h0]
  cases c with
  | none=>exact hd
  | some nd=>exact FR h0 (hc nd rfl)
 ·rw [if_neg h0];exact hd
theorem KF {s:GShow}(z:Bool)(h:aR s=true):dg (wE s z).1=true:=by
 unfold wE
 rw [if_pos h]
 unfold dg
 simp only [Bool.and_eq_true,decide_eq_true_eq]
 refine ⟨⟨⟨wL h,rfl⟩,?_⟩,?_⟩
 ·unfold cz;rw [if_pos h];rfl
 ·unfold cz;rw [if_pos h];rfl
end Go.Proofs.QB
set_option maxRecDepth 100000
set_option maxHeartbeats 1000000
namespace Go.Proofs.QB
open Go
theorem CT {ns:List GNode}{ts:List GTie}{z:Int}(hA:gv ⟨ns,[],0⟩=true)(hW:fw ⟨ns,[],0⟩=true)(ht:∀ i (hi:i<ts.length),tieB ⟨ns,ts,z⟩ ts[i]=true∧ms ⟨ns,ts,z⟩ i ts[i]=true)(h14:ts.length≤14)(hz:1≤z∧z≤10):aR ⟨ns,ts,z⟩=true:=by
 unfold aR
 simp only [Bool.and_eq_true,decide_eq_true_eq]
 refine ⟨⟨⟨⟨hA,?_⟩,h14⟩,hz⟩,hW⟩
 intro i hi
 rw [tV hi,Bool.and_eq_true]
 exact ht i hi
def brN:List GNode:=[(GNode.mk (ByteArray.mk #[103,111]) ([]) 0),(GNode.mk (ByteArray.mk #[97]) ([]) 1),(GNode.mk (ByteArray.mk #[98]) ([1]) 0),(GNode.mk (ByteArray.mk #[99]) ([(-1)]) 0)]
def brM:List GNode:=brN++([(GNode.mk (ByteArray.mk #[100]) ([1]) 0)])
theorem Qy:gv ⟨brN,[],0⟩=true:=by decide +kernel
theorem Qz:gv ⟨brM,[],0⟩=true:=by decide +kernel
theorem QA:fw ⟨brN,[],0⟩=true:=by decide +kernel
theorem QB:fw ⟨brM,[],0⟩=true:=by decide +kernel
structure BrT (t:GTie):Prop where
 f0:0≤t.from_
 f1:t.from_<4
 t0:0≤t.to
 t1:t.to<4
 ne:t.from_≠t.to
 lo:-20≤t.low
 hi:t.high≤20
 lh:t.low≤t.high
 fr:t.free=false
theorem BrT.b {t:GTie}(h:BrT t){ns:List GNode}{ts:List GTie}{z:Int}(hn:4≤ns.length):tieB ⟨ns,ts,z⟩ t=true:=by
 have h1:=h.f1
 have h2:=h.t1
 unfold tieB
 rw [decide_eq_true_eq]
 exact ⟨⟨h.f0,by show t.from_<(ns.length:Int);omega⟩,⟨h.t0,by show t.to<(ns.length:Int);omega⟩,h.ne,h.lo,h.hi,h.lh⟩
theorem BrT.f {t:GTie}(h:BrT t){s:GShow}{i:Nat}:ms s i t=true:=by
 unfold ms
 rw [h.fr];rfl
theorem FS {c:GL01Cur}(hc:Cur c):∃ r,jv c=some r∧aR r.1=true∧FitS r.1∧Cur r.2:=by
 unfold jv
 obtain ⟨r1,e,a0,a1,hc⟩:=aU hc 3 (by omega)
 have a1:=a1 (by omega)
 rw [e];simp only [obnd]
 obtain ⟨r2,e,b0,b1,hc⟩:=aU hc 2 (by omega)
 have b1:=b1 (by omega)
 rw [e];simp only
 obtain ⟨r3,e,d0,d1,hc⟩:=aU hc 3 (by omega)
 have d1:=d1 (by omega)
 rw [e];simp only
 rw [wr (x:=4+r1.1) (by omega) (by omega),wr (x:=r2.1+r3.1) (by omega) (by omega)]
 have key:∃ q,ar (fZ (4+r1.1) brN) (2,[(GTie.mk 0 1 r2.1 (r2.1+r3.1) false)],r3.2.b,r3.2.i,r3.2.h)=some q∧(∀ t,t∈q.1→BrT t)∧q.1.length≤3∧Cur ⟨q.2.1,q.2.2.1,q.2.2.2⟩:=by
  refine cp 2 (fun i st=>st.1=2+(i:Int)∧(∀ t,t∈st.2.1→BrT t)∧st.2.1.length≤1+i∧Cur ⟨st.2.2.1,st.2.2.2.1,st.2.2.2.2⟩) _ ?_ ?_ ?_
  ·refine ⟨by simp,?_,by simp,hc⟩
   intro t ht
   rw [List.mem_singleton] at ht
   subst ht
   exact ⟨by simp only;omega,by simp only;omega,by simp only;omega,by simp only;omega,by simp only;omega,by simp only;omega,by simp only;omega,by simp only;omega,rfl⟩
  ·rintro i ⟨k,ts,b,j,d⟩ hi ⟨hk,hp,hl,hcu⟩
   simp only at hk hp hl hcu
   subst hk
   unfold fZ
   simp only
   rw [if_pos (by omega)]
   obtain ⟨r7,e,f0,f1,hcu⟩:=aU hcu 3 (by omega)
   have f1:=f1 (by omega)
   rw [e];simp only [obnd]
   obtain ⟨r8,e,g0,g1,hcu⟩:=aU hcu 2 (by omega)
   have g1:=g1 (by omega)
   rw [e];simp only
   obtain ⟨r9,e,k0,k1,hcu⟩:=aU hcu 3 (by omega)
   have k1:=k1 (by omega)
   rw [e];simp only
   rw [aq (by omega),aq (by omega),wr (x:=2+(i:Int)+1) (by omega) (by omega),wr (x:=r7.1+1) (by omega) (by omega),wr (x:=r7.1+1+r9.1) (by omega) (by omega)]
   refine .inl ⟨_,rfl,?_,?_,?_,hcu⟩
   ·simp only;omega
   ·intro t ht
    rw [List.mem_append,List.mem_singleton] at ht
    rcases ht with ht | rfl
    ·exact hp t ht
    ·exact ⟨by simp only;omega,by simp only;omega,by simp only;omega,by simp only;omega,by simp only;omega,by simp only;omega,by simp only;omega,by simp only;omega,rfl⟩
   ·simp only [List.length_append,List.length_singleton];omega
  ·rintro ⟨k,ts,b,j,d⟩ ⟨hk,hp,hl,hcu⟩
   simp only at hk hp hl hcu
   subst hk
   unfold fZ
   simp only
   rw [if_neg (by omega)]
   exact ⟨_,rfl,hp,by simp only;omega,hcu⟩
 obtain ⟨q,e,hp,hl,hcu⟩:=key
 unfold brN at e
 rw [e];simp only
 obtain ⟨r11,e,hcu⟩:=qQ hcu 2 (by omega)
 rw [e];simp only
 by_cases h1:r11.1=true
 ·rw [if_pos h1]
  obtain ⟨r12,e,g0,g1,hcu⟩:=aU hcu 2 (by omega)
  have g1:=g1 (by omega)
  rw [e];simp only
  rw [aq (by decide),aq (by decide)]
  obtain ⟨r13,e,k0,k1,hcu⟩:=aU hcu 2 (by omega)
  have k1:=k1 (by omega)
  rw [e];simp only
  rw [aq (by omega),aq (by omega),wr (x:=1+r12.1) (by omega) (by omega),wr (x:=1+r12.1+r13.1) (by omega) (by omega)]
  refine ⟨_,rfl,?_,?_,hcu⟩
  ·refine CT (ns:=brM) Qz QB ?_ (by simp only [List.length_append,List.length_singleton];omega) (by omega)
   intro i hi
   rw [List.length_append,List.length_singleton] at hi
   by_cases hi':i<q.1.length
   ·rw [List.getElem_append_left hi']
    have h:=hp _ (List.getElem_mem hi')
    exact ⟨h.b (by decide),h.f⟩
   ·have hie:i=q.1.length:=by omega
    subst hie
    rw [List.getElem_append_right (Nat.le_refl _)]
    simp only [Nat.sub_self,List.getElem_cons_zero]
    constructor
    ·unfold tieB
     rw [decide_eq_true_eq]
     refine ⟨⟨by simp only;omega,(by decide:(2:Int)<((brM.length:Nat):Int))⟩,⟨by simp only;omega,(by decide:(4:Int)<((brM.length:Nat):Int))⟩,by simp only;omega,by simp only;omega,by simp only;omega,by simp only;omega⟩
    ·unfold ms
     simp only [Bool.not_true,Bool.false_or,Bool.and_eq_true,decide_eq_true_eq]
     refine ⟨⟨by omega,by decide⟩,?_⟩
     rw [Bool.not_eq_true',List.any_eq_false]
     intro u hu hx
     rw [List.take_append_of_le_length (Nat.le_refl _),List.take_length] at hu
     rw [(hp u hu).fr] at hx
     simp at hx
  ·refine ⟨(by decide:brM.length≤1048576),by simp only [List.length_append,List.length_singleton];omega,?_⟩
   intro n hn
   have:∀ n,n∈brM→FitN n:=by
    intro n hn
    unfold brM brN at hn
    simp only [List.mem_append,List.mem_cons,List.not_mem_nil,or_false] at hn
    rcases hn with (rfl | rfl | rfl | rfl) | rfl <;> exact ⟨by decide,by decide⟩
   exact this n hn
 ·rw [if_neg h1]
  refine ⟨_,rfl,?_,?_,hcu⟩
  ·refine CT (ns:=brN) Qy QA ?_ (by omega) (by omega)
   intro i hi
   have h:=hp _ (List.getElem_mem hi)
   exact ⟨h.b (by decide),h.f⟩
  ·refine ⟨(by decide:brN.length≤1048576),by show q.1.length≤_;omega,?_⟩
   intro n hn
   have:∀ n,n∈brN→FitN n:=by
    intro n hn
    unfold brN at hn
    simp only [List.mem_cons,List.not_mem_nil,or_false] at hn
    rcases hn with rfl | rfl | rfl | rfl <;> exact ⟨by decide,by decide⟩
   exact this n hn
theorem Iw {c:GL01Cur}(hc:Cur c):∃ r,lm c=some r∧aR r.1=true∧FitS r.1∧Cur r.2:=by
 unfold lm
 obtain ⟨r1,e,hc⟩:=qQ hc 3 (by omega)
 rw [e];simp only [obnd]
 by_cases h1:r1.1=true
 ·rw [if_pos h1]
  obtain ⟨r,e,h1,h2,h3⟩:=FS hc
  rw [e]
  exact ⟨_,rfl,h1,h2,h3⟩
 ·rw [if_neg h1]
  obtain ⟨r,e,h1,h2,h3⟩:=GB hc
  rw [e]
  exact ⟨_,rfl,h1,h2,h3⟩
end Go.Proofs.QB
set_option maxRecDepth 100000
set_option maxHeartbeats 1000000
namespace Go.Proofs.QB
open Go
theorem FT {c:GL01Cur}(hc:Cur c):∃ r,jE c=some r∧r.1.length≤1048576∧Cur r.2:=by
 unfold jE
 have key:∃ q,ar (gk) (0,[],c.b,c.i,c.h)=some q∧q.1.length=3∧Cur ⟨q.2.1,q.2.2.1,q.2.2.2⟩:=by
  refine cp 3 (fun i st=>st.1=(i:Int)∧st.2.1.length=i∧Cur ⟨st.2.2.1,st.2.2.2.1,st.2.2.2.2⟩) _ ⟨rfl,rfl,hc⟩ ?_ ?_
  ·rintro i ⟨p,v,b,j,d⟩ hi ⟨hk,hl,hcu⟩
   simp only at hk hl hcu
   subst hk
   unfold gk
   simp only
   rw [if_pos (by omega)]
   obtain ⟨r2,e,f0,f1,hcu⟩:=aU hcu 2 (by omega)
   have f1:=f1 (by omega)
   rw [e];simp only [obnd]
   rw [aq (by omega),aq (by omega),wr (x:=(i:Int)+1) (by omega) (by omega)]
   refine .inl ⟨_,rfl,?_,?_,hcu⟩
   ·simp only;omega
   ·simp only [List.length_append,List.length_singleton];omega
  ·rintro ⟨p,v,b,j,d⟩ ⟨hk,hl,hcu⟩
   simp only at hk hl hcu
   subst hk
   unfold gk
   simp only
   rw [if_neg (by omega)]
   exact ⟨_,rfl,hl,hcu⟩
 obtain ⟨q,e,hl,hcu⟩:=key
 rw [e];simp only [obnd]
 obtain ⟨r4,e,hcu⟩:=qQ hcu 20 (by omega)
 rw [e];simp only
 by_cases h:r4.1=true
 ·rw [if_pos h,show (0:Int)=((0:Nat):Int) from rfl,az (by omega)]
  exact ⟨_,rfl,by simp only [List.length_set];omega,hcu⟩
 ·rw [if_neg h]
  exact ⟨_,rfl,by simp only;omega,hcu⟩
theorem GP (code:List Int)(h:code.length≤1048576):∃ d,kA code=some d∧dg d=true∧FitD d:=by
 unfold kA
 obtain ⟨c,e,hc⟩:=CL code h
 rw [e];simp only [obnd]
 unfold nu
 obtain ⟨r1,e,s1,s2,hc⟩:=Iw hc
 rw [e];simp only [obnd]
 obtain ⟨r2,e,hc⟩:=qQ hc 3 (by omega)
 rw [e];simp only
 rw [Fv r1.1 r2.1 s2];simp only
 obtain ⟨r4,e,a0,a1,hc⟩:=aU hc 4 (by omega)
 have a1:=a1 (by omega)
 rw [e];simp only
 have hd:=KF r2.1 s1
 have hf:=Jo r1.1 r2.1 s2
 generalize (wE r1.1 r2.1).1=D at hd hf
 have key:∃ q,ar (iJ) (r4.1,D.show_.horizon,D.state.now,D.lazy,D.show_.nodes,D.show_.ties,D.state.times,D.state.values,D.log,r4.2.b,r4.2.i,r4.2.h)=some q ∧
   (match q with | .inl t=>dg (GDesk.mk (GShow.mk t.2.2.2.1 t.2.2.2.2.1 t.1) (GState.mk t.2.1 t.2.2.2.2.2.1 t.2.2.2.2.2.2.1) t.2.2.1 t.2.2.2.2.2.2.2.1)=true∧FitD (GDesk.mk (GShow.mk t.2.2.2.1 t.2.2.2.2.1 t.1) (GState.mk t.2.1 t.2.2.2.2.2.1 t.2.2.2.2.2.2.1) t.2.2.1 t.2.2.2.2.2.2.2.1) | .inr t=>dg t.1=true∧FitD t.1):=by
  refine cp r4.1.toNat (fun i st=>st.1=r4.1 - (i:Int)∧(∃ E:GDesk,dg E=true∧FitD E∧st.2=(E.show_.horizon,E.state.now,E.lazy,E.show_.nodes,E.show_.ties,E.state.times,E.state.values,E.log,st.2.2.2.2.2.2.2.2.2)∧Cur ⟨st.2.2.2.2.2.2.2.2.2.1,st.2.2.2.2.2.2.2.2.2.2.1,st.2.2.2.2.2.2.2.2.2.2.2⟩)) _ ⟨by simp,D,hd,hf,rfl,hc⟩ ?_ ?_
  ·rintro i ⟨n,st⟩ hi ⟨hk,E,hE,fE,hst,hcu⟩
   simp only at hk hst hcu
   obtain ⟨b,j,k,hb⟩:∃ b j k,st.2.2.2.2.2.2.2.2=(b,j,k):=⟨_,_,_,rfl⟩
   rw [hb] at hst hcu
   simp only at hcu
   subst hst
   subst hk
   unfold iJ
   simp only
   rw [if_pos (by omega)]
   rw [show (GShow.mk E.show_.nodes E.show_.ties E.show_.horizon)=E.show_ from rfl,show (GState.mk E.state.now E.state.times E.state.values)=E.state from rfl,show (GDesk.mk E.show_ E.state E.lazy E.log)=E from rfl]
   rw [uC fE.sh.small (jb hE) fE.st.times fE.st.values]
   simp only [obnd]
   by_cases h0:(((aO E.show_ E.state).length:Nat):Int)=0
   ·rw [if_pos h0]
    exact .inr ⟨_,rfl,hE,fE⟩
   ·rw [if_neg h0]
    have hR:=ba (jb hE)
    have hel:=mZ (x:=E.state) hR.ok
    obtain ⟨r16,e,f0,f1,hcu⟩:=aU hcu (((aO E.show_ E.state).length:Nat):Int) (by omega)
    have f1:=f1 (by omega)
    rw [e];simp only
    obtain ⟨m,hm⟩:∃ m:Nat,r16.1=(m:Int):=⟨r16.1.toNat,by omega⟩
    rw [hm,az (by omega)]
    simp only
    obtain ⟨r18,e,v1,hcu⟩:=FT hcu
    rw [e];simp only
    have ht:((aO E.show_ E.state)[m]'(by omega)).length≤1048576:=by
     have:=(fu hR.ok (List.getElem_mem (l:=aO E.show_ E.state) (n:=m) (by omega))).2.1
     omega
    rw [DD E _ r18.1 fE ht v1]
    simp only
    rw [wr (x:=r4.1 - i - 1) (by omega) (by omega)]
    refine .inl ⟨_,rfl,by simp only;omega,(lS E _ r18.1 5 (ED E _)).1,JF hE (fun nd hn=>(yb hn).1),(CS E _ r18.1 5 _ fE ht (fun _ nd hn=>(yb hn).1)).1,rfl,hcu⟩
  ·rintro ⟨n,st⟩ ⟨hk,E,hE,fE,hst,hcu⟩
   simp only at hk hst hcu
   obtain ⟨b,j,k,hb⟩:∃ b j k,st.2.2.2.2.2.2.2.2=(b,j,k):=⟨_,_,_,rfl⟩
   rw [hb] at hst hcu
   subst hst
   subst hk
   unfold iJ
   simp only
   rw [if_neg (by omega)]
   exact ⟨_,rfl,hE,fE⟩
 obtain ⟨q,e,hq⟩:=key
 rw [e];simp only
 cases q with
 | inl t=>exact ⟨_,rfl,hq.1,hq.2⟩
 | inr t=>exact ⟨_,rfl,hq.1,hq.2⟩
theorem wi {s:GShow}{x:GState}(hs:aM s)(fx:FitX x)(hx:aD s x=true):gQ s x=some (aO s x):=by
 unfold gQ
 rw [ly s x hs fx.times fx.values]
 simp only [obnd]
 rw [hx,if_pos rfl,tJ hx]
theorem DE {s:GShow}{x:GState}(hs:aM s)(fx:FitX x)(hx:aD s x=true):kB s x=some (bT s x):=by
 unfold kB
 rw [ly s x hs fx.times fx.values]
 simp only [obnd]
 rw [hx,if_pos rfl,sf hs (ba hx)]
theorem GQ {s:GShow}{x:GState}(hs:aM s)(fx:FitX x)(hx:aD s x=true):ka s x=some (win s x):=by
 unfold ka
 rw [ly s x hs fx.times fx.values]
 simp only [obnd]
 rw [hx,if_pos rfl]
 unfold dy
 simp only
 obtain ⟨k,_,e⟩:=Cs hs x.now (ba hx).now.1 [] x hx rfl (xY s)
 rw [e]
end Go.Proofs.QB
set_option maxRecDepth 100000
set_option maxHeartbeats 1000000
namespace Go.Proofs.QB
open Go
theorem LP {ps vs:List Int}(h3:ps.length≤3)(hl:vs.length=ps.length)(hv:∀ v,v∈vs→v=1∨v=-1):vs∈obsL ps:=by
 unfold obsL
 rw [← hl]
 have h3':vs.length≤3:=by omega
 clear hl
 match vs,hv,h3' with
 | [],_,_=>decide +kernel
 | [a],hv,_=>
  rcases hv a (by simp) with rfl | rfl <;> decide +kernel
 | [a,b],hv,_=>
  rcases hv a (by simp) with rfl | rfl <;> rcases hv b (by simp) with rfl | rfl <;> decide +kernel
 | [a,b,c],hv,_=>
  rcases hv a (by simp) with rfl | rfl <;> rcases hv b (by simp) with rfl | rfl <;> rcases hv c (by simp) with rfl | rfl <;> decide +kernel
 | _::_::_::_::_,_,h=>simp at h
theorem LQ {d:GDesk}{ties values nd:List Int}(h0:aW d ties values=0)(hs:ca (win d.show_) d.show_ (endX d.show_ d.state ties) nd=true):win d.show_ (finD d ties values nd).state=true:=by
 obtain ⟨g1,hp,g3,_⟩:=lM h0
 have hps:∀ p,p∈aB d.show_ nd→1≤p∧p≤3:=fun p h=>⟨(bd h).1,(bd h).2.1⟩
 obtain ⟨s1,s2⟩:=tM (values:=values) (ps:=aB d.show_ nd) hp hps
 unfold ca at hs
 rw [List.all_eq_true] at hs
 exact hs _ (LP (lL _ _) s1 s2)
theorem DF {s:GShow}{x:GState}(hs:aM s)(h:MomR s x):kC s x=some true:=by
 have hh:=h.right.hor
 have hn:=h.now
 have h7:=h.right.nodes
 have hln:=h.len
 have hv:=(aQ h.val).1
 have hso:=ly s (vj x) hs (by show x.times.length≤_;omega) (by show x.values.length≤_;omega)
 rw [h.nxt] at hso
 unfold cF at hso
 rw [oB s hs,h.ok] at hso
 simp only [obnd,if_true] at hso
 have hst:dv s (vj x)=some true:=by
  cases hm:dv s (vj x) with
  | none=>rw [hm] at hso;exact absurd hso (by simp)
  | some r=>rw [hm] at hso;exact hso
 have hcl:iK x.now=some x.now:=by
  unfold iK
  rw [if_neg (show ¬ 1000000<x.now by omega),if_pos (show -1000000<x.now by omega)]
 unfold kC
 rw [hcl]
 simp only [obnd]
 rw [oB s hs,h.ok]
 simp only [if_true]
 rw [if_pos (by omega),if_pos (by omega),wr (x:=x.now+1) (by omega) (by omega)]
 change obnd (dv s (vj x)) _=_
 rw [hst];rfl
theorem uG {s:GShow}{x:GState}(hs:aM s)(h:MomR s x):eW s x=some (decL s x):=by
 unfold eW
 rw [DF hs h]
 simp only [obnd,if_true]
 rw [qU hs h]
theorem yS {s:GShow}{x:GState}(hs:aM s)(fx:FitX x)(hx:aD s x=true){ties:List Int}(ht:ties∈aO s x):gu s x ties=some (endX s x ties,true):=by
 have hok:=(ba hx).ok
 have hel:=mZ (x:=x) hok
 obtain ⟨a1,a2,a3⟩:=fu hok ht
 have h2:=fx.values
 unfold gu
 rw [wi hs fx hx]
 simp only [obnd]
 rw [rV _ _ (by unfold Cnt;omega) (by unfold Cnt;omega),decide_eq_true ht]
 simp only [if_true]
 rw [wH hx (by omega) (by omega) a3]
theorem xp {s:GShow}{y:GState}(hs:aM s)(h:MomR s y){nd:List Int}(hn:nd∈decL s y):eX s y nd=some (ca (win s) s y nd):=by
 have hl:=rX h.right y
 have h7:=(ct h.right hn).2.1
 unfold eX
 rw [uG hs h]
 simp only [obnd]
 rw [rV _ _ (by unfold Cnt;omega) (by unfold Cnt;omega),decide_eq_true hn]
 simp only [if_true]
 unfold dy
 simp only
 obtain ⟨k',_,e⟩:=vB (Cs hs _ (by have:=h.now;omega)) h hn (xY s)
 unfold eF
 rw [e]
theorem JG {s:GShow}{x:GState}(h:((aO s x).length:Int)=0):s.horizon<x.now:=by
 unfold aO at h
 split at h
 ·assumption
 ·rw [List.length_map,List.length_range] at h
  have:0<2^(mayL s x).length:=Nat.pow_pos (by omega)
  omega
theorem FU (s:GShow)(y:GState):¬ ((decL s y).length:Int)=0:=by
 unfold decL
 rw [List.length_map,List.length_range]
 have:0<2^(enL s y).length:=Nat.pow_pos (by omega)
 omega
theorem vt {d:GDesk}{ties values:List Int}(hd:dg d=true)(hp:pmB values=true):(aW d ties values=2∧(bT d.show_ d.state=true∨fX d.show_ d.state=true∨d.show_.horizon<d.state.now))∨(¬ bT d.show_ d.state=true∧¬ fX d.show_ d.state=true∧¬ d.show_.horizon<d.state.now∧aW d ties values=if ties∈aO d.show_ d.state then 0 else 3):=by
 unfold aW
 rw [if_pos hd,if_pos hp]
 by_cases hb:bT d.show_ d.state=true
 ·rw [if_pos hb];exact .inl ⟨rfl,.inl hb⟩
 ·rw [if_neg hb]
  by_cases ho:fX d.show_ d.state=true
  ·rw [if_pos ho];exact .inl ⟨rfl,.inr (.inl ho)⟩
  ·rw [if_neg ho]
   by_cases hh:d.show_.horizon<d.state.now
   ·rw [if_pos hh];exact .inl ⟨rfl,.inr (.inr hh)⟩
   ·rw [if_neg hh];exact .inr ⟨hb,ho,hh,rfl⟩
theorem zl (code:List Int)(n:Int)(h:code.length≤1048576)(h0:0≤n)(h1:n≤1000000):∃ r,ji code n=some r∧0≤r:=by
 unfold ji
 obtain ⟨c,e,hc⟩:=Js code n h h0 h1
 rw [e]
 simp only [obnd]
 obtain ⟨r,e,a0,a1,hr⟩:=tH hc
 rw [e]
 simp only
 obtain ⟨q,e,b0,b1,hq⟩:=tH hr
 rw [e]
 refine ⟨_,rfl,?_⟩
 rw [wr (x:=r.1*256) (by omega) (by omega),wr (x:=r.1*256+q.1) (by omega) (by omega)]
 omega
theorem DG (code:List Int):kD code=some true:=by
 unfold kD
 by_cases hc:1048576<((code.length:Nat):Int)
 ·rw [if_pos hc]
 rw [if_neg hc]
 obtain ⟨d,e,hd,hf⟩:=GP code (by omega)
 rw [e];simp only [obnd]
 have hx:=jb hd
 have hR:=ba hx
 have hs:=hf.sh.small
 have hdo:cB d=some true:=by rw [vA d hf,hd]
 rw [wi hs hf.st hx];simp only
 rw [GO d.show_ d.state hs hf.st];simp only
 have hman:(aW d [] [1,1,1]=2)→bZ d [] [] [1,1,1]=some (d,2):=by
  intro g
  rw [vq d [] [] [1,1,1] hf (by simp) (by simp) (by decide)]
  have hg:¬ aW d [] [1,1,1]=0:=by omega
  unfold lS
  rw [if_neg hg]
  simp only [g]
 by_cases hdone:Bu d.show_ d.state=true
 ·rw [if_pos hdone]
  have ho:fX d.show_ d.state=true:=by
   unfold Bu at hdone
   rw [if_pos hx] at hdone
   split at hdone
   ·cases hdone
   ·exact hdone
  obtain ⟨g2,_⟩|⟨_,k,_⟩:=vt (ties:=[]) (values:=[1,1,1]) hd (by decide)
  ·rw [hman g2];simp only [if_true]
   rw [hdo]
  ·exact absurd ho k
 rw [if_neg hdone,DE hs hf.st hx];simp only
 by_cases hb:bT d.show_ d.state=true
 ·rw [if_pos hb]
  obtain ⟨g2,_⟩|⟨k,_⟩:=vt (ties:=[]) (values:=[1,1,1]) hd (by decide)
  ·rw [hman g2];simp only [if_true]
   rw [hdo]
  ·exact absurd hb k
 rw [if_neg hb]
 by_cases h0:(((aO d.show_ d.state).length:Nat):Int)=0
 ·rw [if_pos h0]
  obtain ⟨g2,_⟩|⟨_,_,k,_⟩:=vt (ties:=[]) (values:=[1,1,1]) hd (by decide)
  ·rw [hman g2];simp only [if_true]
   rw [hdo]
  ·exact absurd (JG h0) k
 rw [if_neg h0]
 obtain ⟨m,e,hm0⟩:=zl code 40 (by omega) (by omega) (by omega)
 rw [e];simp only
 have hlt:=Int.tmod_lt_of_pos m (b:=((aO d.show_ d.state).length:Int)) (by omega)
 have hge:=Int.tmod_nonneg ((aO d.show_ d.state).length:Int) hm0
 obtain ⟨j,hj⟩:∃ j:Nat,Int.tmod m ((aO d.show_ d.state).length:Int)=(j:Int):=⟨(Int.tmod m ((aO d.show_ d.state).length:Int)).toNat,by omega⟩
 rw [hj] at hlt ⊢
 rw [az (by omega)];simp only
 have ht0:(aO d.show_ d.state)[j]'(by omega)∈aO d.show_ d.state:=List.getElem_mem _
 generalize (aO d.show_ d.state)[j]'(by omega)=ties at ht0
 obtain ⟨a1,a2,a3⟩:=fu hR.ok ht0
 have hM:=kb hx ht0
 rw [yS hs hf.st hx ht0];simp only
 rw [uG hs hM];simp only [if_true]
 rw [if_neg (FU _ _)]
 obtain ⟨m2,e2,hm2⟩:=zl code 42 (by omega) (by omega) (by omega)
 rw [e2];simp only
 have hdl:=FU d.show_ (endX d.show_ d.state ties)
 have hlt2:=Int.tmod_lt_of_pos m2 (b:=((decL d.show_ (endX d.show_ d.state ties)).length:Int)) (by omega)
 have hge2:=Int.tmod_nonneg ((decL d.show_ (endX d.show_ d.state ties)).length:Int) hm2
 obtain ⟨i,hi⟩:∃ i:Nat,Int.tmod m2 ((decL d.show_ (endX d.show_ d.state ties)).length:Int)=(i:Int):=⟨(Int.tmod m2 ((decL d.show_ (endX d.show_ d.state ties)).length:Int)).toNat,by omega⟩
 rw [hi] at hlt2 ⊢
 rw [az (by omega)];simp only
 have hn0:(decL d.show_ (endX d.show_ d.state ties))[i]'(by omega)∈decL d.show_ (endX d.show_ d.state ties):=List.getElem_mem _
 generalize (decL d.show_ (endX d.show_ d.state ties))[i]'(by omega)=nd at hn0
 have f1:=ct hM.right hn0
 rw [vq d ties nd [1,-1,1] hf (by omega) (by omega) (by decide)];simp only
 rw [xp hs hM hn0];simp only
 have g:aW d ties [1,-1,1]=0:=by
  obtain ⟨_,k⟩|⟨_,_,_,k⟩:=vt (ties:=ties) (values:=[1,-1,1]) hd (by decide)
  ·rcases k with k | k | k
   ·exact absurd k hb
   ·exact absurd (by unfold Bu;rw [if_pos hx,if_neg hb];exact k) hdone
   ·omega
  ·rw [k,if_pos ht0]
 unfold lS
 rw [if_pos g]
 by_cases hsf:ca (win d.show_) d.show_ (endX d.show_ d.state ties) nd=true
 ·have hmc:manC d ties nd=some nd:=by unfold manC;rw [if_pos ⟨hn0,hsf⟩]
  rw [if_pos hsf,hmc]
  simp only [if_true]
  have ff:=(CS d ties [1,-1,1] 5 (some nd) hf (by omega) (fun _ x h=>by cases h;exact hn0)).1
  unfold lS at ff
  rw [if_pos g] at ff
  simp only at ff
  rw [vA _ ff,FR g hn0]
  simp only [if_true]
  change obnd (ka d.show_ (finD d ties [1,-1,1] nd).state) _=_
  rw [GQ hs ff.st (JD g hn0),LQ g hsf]
  simp only [obnd,if_true]
  have hl1:=hf.log
  rw [wr (by omega) (by omega),decide_eq_true]
  show (((d.log++[_]).length:Nat):Int)=_
  rw [List.length_append]
  simp
 ·have hmc:manC d ties nd=none:=by unfold manC;rw [if_neg (fun h=>hsf h.2)]
  rw [if_neg hsf,hmc]
  simp only [if_true]
  rw [Cj d d hf,decide_eq_true rfl]
end Go.Proofs.QB
set_option maxRecDepth 100000
set_option maxHeartbeats 1000000
namespace Go.Proofs.QB
open Go
end Go.Proofs.QB
