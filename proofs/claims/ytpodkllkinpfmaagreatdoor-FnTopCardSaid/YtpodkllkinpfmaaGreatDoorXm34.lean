/- Plain loops: what they come to. Own work. -/
import Derived.Test.YtpodkllkinpfmaaGreatDoorXm33
set_option linter.all false
namespace Go.Proofs.Qm
theorem ifP {c:Prop}[Decidable c]{α:Sort _}{a b:α}(h:c:=by omega):(if c then a else b)=a:=if_pos h
theorem ifN {c:Prop}[Decidable c]{α:Sort _}{a b:α}(h:¬ c:=by omega):(if c then a else b)=b:=if_neg h
theorem chP {α:Type}{c:Prop}[Decidable c]{k:Option α}(h:c:=by omega):chk c k=k:=aF h k
theorem wr {x:Int}(h1:-9223372036854775808≤x:=by omega)(h2:x≤9223372036854775807:=by omega):IntKind.wrap .i64 x=x:=WD (by omega) (by omega)
section
variable {σ ρ:Type} {body:σ→Option (Step σ ρ)}
theorem aH (n:Nat)(S:Nat→σ){r:ρ}(h1:∀ i,i<n→body (S i)=some (.next (S (i+1))))(h2:body (S n)=some (.done r)):ak body (S 0)=some r:=by
 have key:∀ k,k≤n→ak body (S (n - k))=some r:=by
  intro k
  induction k with
  | zero=>intro _;rw[bc,Nat.sub_zero,h2]
  | succ k ih=>
   intro hk
   rw[bc,h1 (n - (k+1)) (by omega)]
   have:=ih (by omega)
   rwa [show n - k=n - (k+1)+1 by omega]at this
 have:=key n (Nat.le_refl _)
 rwa [Nat.sub_self]at this
theorem br (n:Nat)(I:Nat→σ→Prop)(p:ρ→Prop){s0:σ}(h0:I 0 s0)(h1:∀ i s,i<n→I i s→(∃ s',body s=some (.next s')∧I (i+1) s')∨∃ r,body s=some (.done r)∧p r)(h2:∀ s,I n s→∃ r,body s=some (.done r)∧p r):∃ r,ak body s0=some r∧p r:=by
 have key:∀ k i s,i+k=n→I i s→∃ r,ak body s=some r∧p r:=by
  intro k
  induction k with
  | zero=>
   intro i s hi hI
   obtain⟨r,hr,hp⟩:=h2 s (by rw[← hi];exact hI)
   exact⟨r,by rw[bc,hr],hp⟩
  | succ k ih=>
   intro i s hi hI
   obtain⟨s',hs,hI'⟩|⟨r,hr,hp⟩:=h1 i s (by omega) hI
   ·obtain⟨r,hr,hp⟩:=ih (i+1) s' (by omega) hI'
    exact⟨r,by rw[bc,hs];exact hr,hp⟩
   exact⟨r,by rw[bc,hr],hp⟩
 exact key n 0 s0 (by omega) h0
theorem cR (n:Nat)(S:Nat→σ)(p:Nat→Bool){rT rF:ρ}(h1:∀ i,i<n→p i=true→body (S i)=some (.next (S (i+1))))(h2:∀ i,i<n→p i=false→body (S i)=some (.done rF))(h3:body (S n)=some (.done rT)) :
  ak body (S 0)=some (if ∀ i,i<n→p i=true then rT else rF):=by
 by_cases hall:∀ i,i<n→p i=true
 ·rw[if_pos hall]
  exact aH n S (fun i hi=>h1 i hi (hall i hi)) h3
 rw[if_neg hall]
 have:∃ j,j<n∧p j=false∧∀ i,i<j→p i=true:=by
  clear h1 h2 h3
  induction n with
  | zero=>exact absurd (fun i hi=>absurd hi (Nat.not_lt_zero i)) hall
  | succ n ih=>
   by_cases hn:∀ i,i<n→p i=true
   ·refine⟨n,Nat.lt_succ_self n,?_,hn⟩
    cases hp:p n with
    | false=>rfl
    | true=>exact absurd (fun i hi=>by
     rcases Nat.lt_or_ge i n with h|h
     ·exact hn i h
     rw[show i=n by omega];exact hp) hall
   obtain⟨j,h1,h2,h3⟩:=ih hn
   exact⟨j,by omega,h2,h3⟩
 obtain⟨j,hj,hp,hlt⟩:=this
 exact aH j S (fun i hi=>h1 i (by omega) (hlt i hi)) (h2 j hj hp)
theorem Ej (n:Nat)(S:Nat→σ)(p:Nat→Bool){rT:ρ}(rF:Nat→ρ)(h1:∀ i,i<n→p i=false→body (S i)=some (.next (S (i+1))))(h2:∀ i,i<n→p i=true→body (S i)=some (.done (rF i)))(h3:body (S n)=some (.done rT)) :
  ak body (S 0)=some (match (List.range n).find? p with|none=>rT|some i=>rF i):=by
 cases hf:(List.range n).find? p with
 | none=>
  have:=List.find?_eq_none.1 hf
  exact aH n S (fun i hi=>h1 i hi (by simpa using this i (by simpa using hi))) h3
 | some j=>
  obtain⟨hp,as,bs,hab,hno⟩:=List.find?_eq_some_iff_append.1 hf
  have hlen:as.length=j:=by
   have h4:(List.range n)[as.length]?=some j:=by rw[hab];simp
   rw[List.getElem?_range (by
    have:as.length<(List.range n).length:=by rw[hab];simp
    simpa using this)]at h4
   simpa using h4
  have hj:j<n:=by
   have:j∈List.range n:=by rw[hab];simp
   simpa using this
  refine aH j S (fun i hi=>h1 i (by omega) ?_) (h2 j hj hp)
  have hi':i∈as:=by
   have h5:(List.range n)[i]?=some i:=by rw[List.getElem?_range (by omega)]
   rw[hab,List.getElem?_append_left (by omega)]at h5
   exact List.mem_of_getElem? h5
  simpa using hno i hi'
end
section
variable {σ ρ:Type} {body:σ→Option (Step σ ρ)}
theorem jh {α:Type}(xs:List α)(q:α→Bool)(S:Nat→σ){rT:ρ}(rF:Nat→ρ)(h1:∀ i (hi:i<xs.length),q xs[i]=false→body (S i)=some (.next (S (i+1))))(h2:∀ i (hi:i<xs.length),q xs[i]=true→body (S i)=some (.done (rF i)))(h3:body (S xs.length)=some (.done rT)) :
  ak body (S 0)=some (match xs.findIdx? q with|none=>rT|some i=>rF i):=by
 cases hf:xs.findIdx? q with
 | none=>
  have:=List.findIdx?_eq_none_iff.1 hf
  exact aH xs.length S (fun i hi=>h1 i hi (this _ (List.getElem_mem hi))) h3
 | some j=>
  obtain⟨hj,hp,hno⟩:=List.findIdx?_eq_some_iff_getElem.1 hf
  exact aH j S (fun i hi=>h1 i (by omega) (by simpa using hno i hi)) (h2 j hj hp)
theorem qp {α:Type}(xs:List α)(q:α→Bool)(S:Nat→σ){rT rF:ρ}(h1:∀ i (hi:i<xs.length),q xs[i]=true→body (S i)=some (.next (S (i+1))))(h2:∀ i (hi:i<xs.length),q xs[i]=false→body (S i)=some (.done rF))(h3:body (S xs.length)=some (.done rT)) :
  ak body (S 0)=some (if xs.all q=true then rT else rF):=by
 have h:=jh (body:=body) xs (fun x=>!q x) S (rT:=rT) (fun _=>rF) (fun i hi hq=>h1 i hi (by simpa using hq)) (fun i hi hq=>h2 i hi (by simpa using hq)) h3
 rw[h]
 cases hf:xs.findIdx? (fun x=>!q x) with
 | none=>
  have:=List.findIdx?_eq_none_iff.1 hf
  rw[if_pos (List.all_eq_true.2 (fun x hx=>by simpa using this x hx))]
 | some j=>
  obtain⟨hj,hp,hno⟩:=List.findIdx?_eq_some_iff_getElem.1 hf
  rw[if_neg (fun ha=>by have:=List.all_eq_true.1 ha _ (List.getElem_mem hj);rw[this]at hp;cases hp)]
end
def aL {α:Type}(xs:List α)(q:α→Bool):Int:=match xs.findIdx? q with|none=>-1|some i=>i
theorem dt {α:Type}{xs:List α}{q:α→Bool}(h:0≤aL xs q):∃ (i:Nat) (hi:i<xs.length),aL xs q=i∧q xs[i]=true∧∀ j (hj:j<i),q xs[j]=false:=by
 unfold aL at h ⊢
 cases hf:xs.findIdx? q with
 | none=>rw[hf]at h;simp at h
 | some j=>
  obtain⟨hj,hp,hno⟩:=List.findIdx?_eq_some_iff_getElem.1 hf
  exact⟨j,hj,rfl,hp,fun k hk=>by simpa using hno k hk⟩
theorem iY {α:Type}{xs:List α}{q:α→Bool}:decide (0≤aL xs q)=xs.any q:=by
 unfold aL
 cases hf:xs.findIdx? q with
 | none=>
  have:=List.findIdx?_eq_none_iff.1 hf
  have h2:xs.any q=false:=by rw[List.any_eq_false];exact fun x hx=>by rw[this x hx];simp
  rw[h2];rfl
 | some j=>
  obtain⟨hj,hp,hno⟩:=List.findIdx?_eq_some_iff_getElem.1 hf
  have h2:xs.any q=true:=List.any_eq_true.2 ⟨_,List.getElem_mem hj,hp⟩
  rw[h2,decide_eq_true (by simp)]
theorem aw {α:Type}{xs:List α}{i:Nat}(h:i<xs.length):getI xs (i:Int)=some xs[i]:=by
 unfold getI
 rw[if_pos (by omega),Int.toNat_natCast,List.getElem?_eq_getElem h]
abbrev za:=@if_pos
abbrev zb:=@if_neg
abbrev zd:=@decide_eq_true_eq
abbrev ze:=@decide_eq_true
abbrev zf:=@decide_eq_false
abbrev zg:=@Bool.and_eq_true
abbrev zh:=@List.getElem_mem
abbrev zi:=@List.getElem?_eq_getElem
abbrev zj:=@List.length_append
abbrev zk:=@Bool.true_and
abbrev zl:=@if_true
abbrev zm:=@Int.toNat_natCast
abbrev zn:=@Nat.le_refl
abbrev zo:=@List.length_cons
abbrev zp:=@List.getD_eq_getElem?_getD
abbrev zq:=@List.mem_map
abbrev zt:=@List.length_nil
abbrev zu:=@List.length_map
abbrev zw:=@List.all_eq_true
abbrev zx:=@List.mem_filter
abbrev zy:=@Int.le_refl
abbrev zA:=@decide_eq_false_iff_not
abbrev zB:=@List.length_take
abbrev zC:=@List.mem_singleton
abbrev zD:=@List.mem_append
abbrev zE:=@List.append_assoc
abbrev zF:=@List.length_singleton
abbrev zG:=@List.getElem_of_mem
abbrev zH:=@List.mem_cons
abbrev zI:=@List.map_append
abbrev zJ:=@Bool.not_eq_true'
abbrev zK:=@List.append_nil
abbrev zL:=@Bool.or_eq_true
abbrev zM:=@Bool.false_eq_true
abbrev zN:=@List.length_set
abbrev zO:=@List.take_zero
abbrev zP:=@List.any_eq_false
abbrev zQ:=@List.mem_range
abbrev zR:=@Bool.false_and
abbrev z6:=@List.any_eq_true
abbrev z7:=@List.getElem?_append_left
abbrev z8:=@List.getElem?_map
abbrev w0:=@List.find?_eq_none
abbrev w5:=@List.find?_some
abbrev w6:=@List.getElem?_append_right
abbrev w7:=@Bool.or_eq_false_iff
abbrev w8:=@Option.some.inj
abbrev w9:=@List.mem_of_find?_eq_some
abbrev q5:=@Bool.and_true
abbrev q6:=@ByteArray.size_append
abbrev q7:=@List.getElem?_range
abbrev q8:=@Int.not_lt
abbrev q9:=@Nat.mod_lt
abbrev j2:=@Nat.not_lt_zero
abbrev j3:=@List.length_replicate
abbrev j4:=@List.mem_cons_self
abbrev j5:=@List.mem_cons_of_mem
abbrev j6:=@Nat.sub_self
abbrev j7:=@Decidable.not_not
abbrev j9:=@List.mem_of_getElem?
abbrev k6:=@List.getElem_take
abbrev k7:=@List.getElem?_set
abbrev k9:=@List.filter_eq_nil_iff
end Go.Proofs.Qm
