/- A call as one step of the caller. Own work. -/
import Derived.Test.YtdhboohobflflaaGreatDoorXq15
set_option linter.all false
namespace Go.Proofs.Qq
def iO (H:Hp):Nat→List (Nat × Nat)→List AV→List (Nat × Nat)
 | 0,acc,_=>acc
 | _+1,acc,[]=>acc
 | n+1,acc,av::rest=>match av with
  | .ptr id ver _ _ | .ref id ver _ _ | .mp id ver=>if acc.any (fun p=>p.1 == id) then iO H n acc rest else (match hget H id with
   | some (v,blk)=>if v=ver then (match blk with
    | .var cells=>iO H n (acc++[(id,ver)]) (cells++rest)
    | .gone=>iO H n acc rest
    | _=>iO H n (acc++[(id,ver)]) rest) else iO H n acc rest
   | none=>iO H n acc rest)
  | .fn _ cs | .agg cs | .tup cs=>iO H n acc (cs++rest)
  | _=>iO H n acc rest
def tH:Nat→List (Nat × Nat)→List (Nat × Nat × Nat)
 | _,[]=>[]
 | k,(id,v)::r=>(id,v,k)::tH (k+1) r
def pick (as:List AV):List Nat→List AV
 | []=>[]
 | i::r=>(match as[i]? with
  | some a=>a::pick as r
  | none=>pick as r)
def psOf (H:Hp)(pass:List Nat)(args:List AV):List (Nat × Nat × Nat):=
 match pass with
 | []=>[]
 | _=>tH 10000 (iO H 200 [] (pick args pass))
mutual
def Ao:AV→List Nat
 | .ref id _ _ _=>[id]
 | .fn _ cs=>ix cs
 | .agg cs=>ix cs
 | .tup cs=>ix cs
 | .lit _=>[]
 | .sl _=>[]
 | .own _=>[]
 | .loc _=>[]
 | .ptr ..=>[]
 | .mp ..=>[]
 | .dead=>[]
def ix:List AV→List Nat
 | []=>[]
 | c::cs=>Ao c++ix cs
end
def cN (ps:List (Nat × Nat × Nat)):List Nat→Hp→Hp
 | [],H=>H
 | id::r,H=>match inPs ps id with
  | some _=>cN ps r H
  | none=>(match hget H id with
   | some (v,blk)=>(match blk with
    | .row _ rows=>cN ps r ((id,v,.tree (aX rows))::H)
    | _=>cN ps r H)
   | none=>cN ps r H)
def kj:List Nat→Bool
 | []=>true
 | x::r=>!r.contains x&&kj r
def okPs (d:Nat)(ps:List (Nat × Nat × Nat)):Bool:=ps.all (fun p=>!(p.1 / 64 == d)&&Nat.blt p.2.2 20000)&&kj (ps.map (fun p=>p.1))&&kj (ps.map (fun p=>p.2.2))
def frsH:Hp→Bool
 | []=>true
 | (_,_,b)::r=>frsB b&&frsH r
def rho (d clk:Nat)(ps:List (Nat × Nat × Nat))(k v:Nat):Option (Nat × Nat):=
 if v=0 then dY ps k else if v=1 then (if 20000≤k then (if k<20064 then some (aZ d (k - 20000),clk) else none) else none) else none
def nM (d clk:Nat)(ps:List (Nat × Nat × Nat))(h':Hp)(k want v:Nat):Nat × Blk:=
 match hget h' k with
 | some (x,b)=>if x=want then (v,renB (rho d clk ps) b) else (clk+1,.gone)
 | none=>(clk+1,.gone)
def lT (d clk:Nat)(ps:List (Nat × Nat × Nat))(h':Hp):List (Nat × Nat × Nat)→Hp→Hp
 | [],rest=>rest
 | (c,v,k)::r,rest=>(c,nM d clk ps h' k 0 v)::lT d clk ps h' r rest
def rets (d clk:Nat)(ps:List (Nat × Nat × Nat))(h':Hp):List Nat→Hp→Hp
 | [],rest=>rest
 | k::r,rest=>(aZ d (k - 20000),nM d clk ps h' k 1 clk)::rets d clk ps h' r rest
def rids:Hp→List Nat
 | []=>[]
 | (k,_,_)::r=>if 20000≤k then (if k<20064 then k::rids r else rids r) else rids r
def gr (d:Nat):Hp→Hp
 | []=>[]
 | (id,v,b)::r=>if id / 64=d then gr d r else (id,v,b)::gr d r
def back (d clk:Nat)(ps:List (Nat × Nat × Nat))(h' H:Hp):Hp:=lT d clk ps h' ps (rets d clk ps h' (rids h') (gr d H))
inductive Mark {α:Type} (a:α):Type
 | mk
def yZ (P:Program)(f:Nat)(as:List AV)(h:Hp)(Q:AV→Hp→Prop)(_:Mark Q):Prop:=∃ r h',aj P f as h r h'∧Q r h'
theorem af {P:Program}{f:Nat}{as:List AV}{h:Hp}{Q:AV→Hp→Prop}{m:Mark Q}{r:AV}{h':Hp}(hc:aj P f as h r h')(hq:Q r h'):yZ P f as h Q m:=⟨r,h',hc,hq⟩
def fixN:Bool→List AV→List AV→List AV
 | true,.lit v::r,_::q=>.lit v::fixN true r q
 | true,_::r,b::q=>b::fixN true r q
 | _,_,q=>q
theorem yK (a b:List AV):fixN false a b=b:=by cases a <;> cases b <;> rfl
def ly (P:Program)(d f:Nat)(ps:List (Nat × Nat × Nat))(H:Hp)(clk:Nat)(sn nl:Bool)(args:List AV)(Q:AV→Hp→Nat→Prop):Prop:=
 okPs d ps=true∧(match trL ps H sn args with
  | some as=>(match ent ps H sn ps with
   | some h=>yZ P f (fixN nl args as) h (fun r h'=>(sn=true→frs r=true∧frsH h'=true)∧Q (ren (rho d clk ps) r) (back d clk ps h' H) (clk+2)) .mk
   | none=>False)
  | none=>False)
def nN (P:Program)(md:Nat→List AV→Md)(d f:Nat)(H:Hp)(clk:Nat)(args:List AV)(Q:AV→Hp→Nat→Prop):Prop:=
 if (md f args).keep then ly P d f (psOf H (md f args).pass args) (cN (psOf H (md f args).pass args) (ix args) H) clk false ((md f args).pass.contains 1000) args Q
 else ly P d f (psOf H (md f args).pass args) H clk true ((md f args).pass.contains 1000) args Q
section
variable {P:Program} {fr:Fr} {nt:Nat} {env:Env} {H:Hp} {clk:Nat} {K:Nat→Prop} {M:Nat→Cb} {tmps:Array Value} {w:World} {ps:List (Nat × Nat × Nat)}
theorem kk:∀ {l:List Nat},kj l=true→l.Nodup
 | [],_=>by simp
 | x::r,h=>by
  simp only[kj,Bool.and_eq_true,Bool.not_eq_true',List.contains_eq_mem]at h
  exact List.nodup_cons.2 ⟨by simpa using h.1,kk h.2⟩
theorem yL:∀ {h:Hp},frsH h=true→∀ id ver b,hget h id=some (ver,b)→frsB b=true
 | [],_,_,_,_,hg=>by simp[hget]at hg
 | (k,v,b)::r,h,id,ver,b',hg=>by
  simp only[frsH,Bool.and_eq_true]at h
  simp only[dm]at hg
  split at hg
  ·cases hg;exact h.1
  exact yL h.2 id ver b' hg
theorem eC (k:Nat)(x:Nat × Blk)(r:Hp)(i:Nat):hget ((k,x)::r) i=if k=i then some x else hget r i:=rfl
theorem lU (d:Nat):∀ (H:Hp) (id:Nat),id / 64≠d→hget (gr d H) id=hget H id
 | [],_,_=>rfl
 | (k,v,b)::r,id,h=>by
  simp only[gr]
  split
  ·rename_i hk
   have hne:k≠id:=fun e=>h (by rw[← e];exact hk)
   rw[lU d r id h,dm,if_neg hne]
  rw[dm,dm,lU d r id h]
theorem kF (d:Nat):∀ (H:Hp) (id:Nat),id / 64=d→hget (gr d H) id=none
 | [],_,_=>rfl
 | (k,v,b)::r,id,h=>by
  simp only[gr]
  split
  ·exact kF d r id h
  rename_i hk
  have hne:k≠id:=fun e=>hk (by rw[e];exact h)
  rw[dm,if_neg hne,kF d r id h]
theorem oG (d:Nat)(h':Hp)(id:Nat)(rest:Hp):∀ (l:List (Nat × Nat × Nat)),hget (lT d clk ps h' l rest) id=match inPs l id with
  | some (v,k)=>some (nM d clk ps h' k 0 v)
  | none=>hget rest id
 | []=>rfl
 | (c,v,k)::r=>by
  simp only[lT,eC,inPs]
  by_cases hc:c=id
  ·simp only[hc,if_true]
  simp only[hc,if_false]
  exact oG d h' id rest r
theorem Ap (d:Nat)(h':Hp)(id:Nat)(rest:Hp)(hr:id / 64=d→hget rest id=none)(l:List Nat)(x:Nat × Blk)(hl:∀ k,k∈l→20000≤k∧k<20064)(hg:hget (rets d clk ps h' l rest) id=some x) :
  (id / 64=d∧x=nM d clk ps h' (20000+id % 64) 1 clk)∨(id / 64≠d∧hget rest id=some x):=by
 induction l with
 | nil=>
  simp only[rets]at hg
  by_cases hd:id / 64=d
  ·rw[hr hd]at hg;cases hg
  exact .inr ⟨hd,hg⟩
 | cons k r ih=>
  simp only[rets,eC]at hg
  by_cases hk:aZ d (k - 20000)=id
  ·rw[if_pos hk]at hg
   have hx:=Option.some.inj hg
   have hb:=hl k List.mem_cons_self
   unfold aZ at hk
   refine .inl ⟨by omega,?_⟩
   rw[show 20000+id % 64=k by omega]
   exact hx.symm
  rw[if_neg hk]at hg
  exact ih (fun k hk=>hl k (List.mem_cons_of_mem _ hk)) hg
theorem nO:∀ {h:Hp} {k:Nat},k∈rids h→20000≤k∧k<20064
 | [],_,h=>by simp[rids]at h
 | (k',v,b)::r,k,h=>by
  simp only[rids]at h
  split at h
  ·split at h
   ·rcases List.mem_cons.1 h with rfl|h
    ·omega
    exact nO h
   exact nO h
  exact nO h
theorem CH {d k:Nat}(h1:20000≤k)(h2:k<20064):rho d clk ps k 1=some (aZ d (k - 20000),clk):=by
 unfold rho
 rw[if_neg (by decide),if_pos rfl,if_pos h1,if_pos h2]
theorem yM {w:World}{K K':Nat→Prop}{clk clk':Nat}{H H':Hp}{M M':Nat→Cb}:∀ (nl:Bool) (args as:List AV) (vs:List Value),an w K clk H M args vs→an w K' clk' H' M' as vs→an w K' clk' H' M' (fixN nl args as) vs
 | false,a,b,vs,_,h=>by rw[yK];exact h
 | true,[],b,vs,_,h=>by
  have:fixN true [] b=b:=by cases b <;> rfl
  rw[this];exact h
 | true,a::r,[],vs,_,h=>by
  have:fixN true (a::r) []=[]:=by cases a <;> rfl
  rw[this];exact h
 | true,a::r,b::q,[],h1,h2=>by simp[an]at h2
 | true,a::r,b::q,v::vs,h1,h2=>by
  simp only[an]at h1 h2
  have ih:=yM true r q vs h1.2 h2.2
  cases a <;> simp only[fixN,an] <;> first|exact⟨h2.1,ih⟩|exact⟨by simpa only [erep] using h1.1,ih⟩
theorem xz (R:Rel fr nt ⟨env,H,clk⟩ K M tmps w){d f:Nat}{sn nl:Bool}{args:List AV}{vs:Array Value}{Q:AV→Hp→Nat→Prop}(ha:an w K clk H M args vs.toList)(h:ly P d f ps H clk sn nl args Q) :
  (∃ fn,P.funcs[f]?=some fn∧(fn.name == "runtime.NumGoroutine")=false∧fn.body.isNone=false) ∧
  Calls P f vs w (fun e w'=>∃ v K' M' av H' clk',e=.returned v∧Rel fr nt ⟨env,H',clk'⟩ K' M' tmps w'∧erep w' K' clk' H' M' av v∧Q av H' clk'):=by
 obtain⟨hps,h⟩:=h
 unfold okPs at hps
 simp only[Bool.and_eq_true]at hps
 obtain⟨⟨hall,hc⟩,hk⟩:=hps
 have hc:=kk hc
 have hk:=kk hk
 have hmem:∀ c v k,(c,v,k)∈ps→c / 64≠d∧k<20000:=by
  intro c v k hm
  have:=List.all_eq_true.1 hall _ hm
  simp only[Bool.and_eq_true,Bool.not_eq_true',beq_eq_false_iff_ne,Nat.blt_eq]at this
  exact this
 split at h
 ·rename_i as hargs
  split at h
  ·rename_i h0 hent
   obtain⟨r,h',hok,hfr,hQ⟩:=h
   have HO:=R.heap
   simp only at HO
   have hE:=Es HO hk hent hc
   refine⟨hok.1,Calls.mono (hok.2 w _ _ vs (R.glob.mono (fun b hb=>⟨rfl,.inl hb⟩)) hE (yM nl _ _ _ ha (nq HO hk hent _ _ _ ha hargs))) ?_⟩
   rintro e w' ⟨v,K',M',rfl,R',hv⟩
   let σ:Nat→Option Nat:=fun id=>match inPs ps id with
    | some (_,k)=>some k
    | none=>if id / 64=d then some (20000+id % 64) else none
   have hσ1:∀ id v k,inPs ps id=some (v,k)→σ id=some k:=fun id v k hi=>by simp only[σ,hi]
   have hσ2:∀ id,inPs ps id=none→id / 64=d→σ id=some (20000+id % 64):=fun id hi hd=>by simp only[σ,hi,hd,if_true]
   have hσ3:∀ id,inPs ps id=none→id / 64≠d→σ id=none:=fun id hi hd=>by simp only[σ,hi,hd,if_false]
   have nin:∀ id,id / 64=d→inPs ps id=none:=by
    intro id hd
    cases hi:inPs ps id with
    | none=>rfl
    | some x=>
     obtain⟨v,k⟩:=x
     exact absurd hd (hmem _ _ _ (dO hi)).1
   have hback:∀ k want v x b,nM d clk ps h' k want v=(x,b)→(b=.gone∧x=clk+1)∨∃ b0,hget h' k=some (want,b0)∧b=renB (rho d clk ps) b0∧x=v:=by
    intro k want v x b hb
    unfold nM at hb
    split at hb
    ·rename_i y b0 hg
     split at hb
     ·rename_i hy
      cases hb
      exact .inr ⟨b0,by rw[hg,hy],rfl,rfl⟩
     cases hb;exact .inl ⟨rfl,rfl⟩
    cases hb;exact .inl ⟨rfl,rfl⟩
   have key:∀ {A B:Prop},(A→B)→A→B:=fun f a=>f a
   refine key (fun hm=>?_) (R.merge σ (rho d clk ps) (back d clk ps h' H) h0 h' (KP K ps H M sn) (if sn then K else K') K' (MC ps M) M' R' ?_ ?_ ?_ ?_ (fun b hb=>.inl hb) ?_)
   ·obtain⟨R2,hres⟩:=hm
    refine⟨v,_,_,_,_,_,rfl,R2,hres r v ?_ hv,hQ⟩
    cases sn with
    | false=>exact .inl rfl
    | true=>exact .inr (hfr rfl).1
   ·intro id id' k h1 h2
    simp only[σ]at h1 h2
    split at h1
    ·rename_i v1 k1 hi1
     cases h1
     split at h2
     ·rename_i v2 k2 hi2
      cases h2
      have e1:=dl hk (dO hi1)
      have e2:=dl hk (dO hi2)
      rw[e1]at e2
      cases e2
      rfl
     split at h2
     ·cases h2
      have:=(hmem _ _ _ (dO hi1)).2
      omega
     cases h2
    split at h1
    ·cases h1
     split at h2
     ·rename_i v2 k2 hi2
      cases h2
      have:=(hmem _ _ _ (dO hi2)).2
      omega
     split at h2
     ·have:=Option.some.inj h2
      omega
     cases h2
    cases h1
   ·intro id ver b hg
    unfold back at hg
    rw[oG]at hg
    cases hi:inPs ps id with
    | some x=>
     obtain⟨v0,k⟩:=x
     rw[hi]at hg
     simp only[Option.some.injEq]at hg
     rw[hσ1 id v0 k hi]
     simp only
     rcases hback _ _ _ _ _ hg with h1|⟨b0,h1,h2,h3⟩
     ·exact .inl h1
     refine .inr ⟨0,b0,h1,h2,?_⟩
     simp only[rho,if_true]
     rw[h3]
     exact dl hk (dO hi)
    | none=>
     rw[hi]at hg
     simp only at hg
     obtain⟨hd,hx⟩|⟨hd,hx⟩:=Ap d h' id (gr d H) (fun hd=>kF d H id hd) (rids h') (ver,b) (fun k hk=>nO hk) hg
     ·rw[hσ2 id hi hd]
      simp only
      rcases hback _ _ _ _ _ hx.symm with h1|⟨b0,h1,h2,h3⟩
      ·exact .inl h1
      refine .inr ⟨1,b0,h1,h2,?_⟩
      have h4:20000≤20000+id % 64:=by omega
      have h5:20000+id % 64<20064:=by omega
      rw[CH h4 h5,h3]
      have h6:aZ d (20000+id % 64 - 20000)=id:=by unfold aZ;omega
      rw[h6]
     rw[hσ3 id hi hd]
     rwa [lU d H id hd]at hx
   ·intro k v0 id ver hr
    unfold rho at hr
    split at hr
    ·rename_i hv0
     have hin:=fM hc (iw hr)
     obtain⟨h1,h2⟩:=yJ hent hr
     exact⟨hσ1 id ver k hin,.inr ⟨hv0,h2,h1,by simp only[MC,hr]⟩⟩
    split at hr
    ·rename_i hv1
     split at hr
     ·split at hr
      ·rename_i h1 h2
       obtain⟨h3,h4⟩:=Prod.mk.inj (Option.some.inj hr)
       subst h3 h4
       have hd:aZ d (k - 20000) / 64=d:=by unfold aZ;omega
       refine⟨?_,.inl ⟨rfl,hv1⟩⟩
       rw[hσ2 _ (nin _ hd) hd]
       have h6:20000+aZ d (k - 20000) % 64=k:=by unfold aZ;omega
       rw[h6]
      cases hr
     cases hr
    cases hr
   ·intro k x b hg
    obtain⟨c,v1,blk,h1,h2,h3,h4⟩:=lP hent hg
    refine⟨c,hσ1 c v1 k (fM hc (iw h1)),v1,blk,h3,?_⟩
    simp only[MC,h1]
    exact(An HO hk hent (HO.blk c v1 blk h3).2 h4).2
   cases sn with
   | false=>
    refine .inl ⟨by simp,fun b hb=>?_⟩
    rcases hb with hb|⟨h1,_⟩
    ·exact hb
    cases h1
   | true=>exact .inr ⟨by simp,yL (hfr rfl).2⟩
  exact h.elim
 exact h.elim
theorem eh:∀ (l:List Nat) (H:Hp) (K:Nat→Prop),Rel fr nt ⟨env,H,clk⟩ K M tmps w→∀ args vs,an w K clk H M args vs→∃ K',Rel fr nt ⟨env,cN ps l H,clk⟩ K' M tmps w∧an w K' clk (cN ps l H) M args vs
 | [],H,K,R,args,vs,ha=>⟨K,R,ha⟩
 | id::r,H,K,R,args,vs,ha=>by
  simp only[cN]
  split
  ·exact eh r H K R args vs ha
  split
  ·rename_i v blk hg
   split
   ·rename_i z rows
    refine eh r _ _ (R.freeze hg) args vs (cd (fun b hb=>⟨rfl,.inl hb⟩) (Nat.le_refl _) ?_ _ _ ha)
    intro j vv b' _ hg'
    by_cases hj:j=id
    ·subst hj
     rw[aK]at hg'
     obtain⟨rfl,rfl⟩:=Prod.mk.inj (Option.some.inj hg')
     exact⟨_,hg,.refl _⟩
    rw[aS hj]at hg'
    exact⟨b',hg',.refl _⟩
   exact eh r H K R args vs ha
  exact eh r H K R args vs ha
theorem Bq {md:Nat→List AV→Md}(R:Rel fr nt ⟨env,H,clk⟩ K M tmps w){d f:Nat}{args:List AV}{vs:Array Value}{Q:AV→Hp→Nat→Prop}(ha:an w K clk H M args vs.toList)(h:nN P md d f H clk args Q) :
  (∃ fn,P.funcs[f]?=some fn∧(fn.name == "runtime.NumGoroutine")=false∧fn.body.isNone=false) ∧
  Calls P f vs w (fun e w'=>∃ v K' M' av H' clk',e=.returned v∧Rel fr nt ⟨env,H',clk'⟩ K' M' tmps w'∧erep w' K' clk' H' M' av v∧Q av H' clk'):=by
 unfold nN at h
 split at h
 ·obtain⟨K1,R1,ha1⟩:=eh (ps:=psOf H (md f args).pass args) (ix args) H K R _ _ ha
  exact xz R1 ha1 h
 exact xz R ha h
end
end Go.Proofs.Qq
