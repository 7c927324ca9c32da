/- A call as one step of the caller. Own work. -/
import Derived.Test.YtdhboohobflflaaGreatDoorXr15
set_option linter.all false
namespace Go.Proofs.Qr
def kS (H:Hp):Nat→List (Nat × Nat)→List AV→List (Nat × Nat)
 | 0,acc,_=>acc
 | _+1,acc,[]=>acc
 | n+1,acc,av::rest=>match av with
  | .ptr id ver _ _ | .ref id ver _ _ | .mp id ver=>if acc.any (fun p=>p.1 == id) then kS H n acc rest else (match hget H id with
   | some (v,blk)=>if v=ver then (match blk with
    | .var cells=>kS H n (acc++[(id,ver)]) (cells++rest)
    | .gone=>kS H n acc rest
    | _=>kS H n (acc++[(id,ver)]) rest) else kS H n acc rest
   | none=>kS H n acc rest)
  | .fn _ cs | .agg cs | .tup cs=>kS H n acc (cs++rest)
  | _=>kS H n acc rest
def wU:Nat→List (Nat × Nat)→List (Nat × Nat × Nat)
 | _,[]=>[]
 | k,(id,v)::r=>(id,v,k)::wU (k+1) r
def pick (as:List AV):List Nat→List AV
 | []=>[]
 | i::r=>(match as[i]? with
  | some a=>a::pick as r
  | none=>pick as r)
def psOf (H:Hp)(pass:List Nat)(args:List AV):List (Nat × Nat × Nat):=
 match pass with
 | []=>[]
 | _=>wU 10000 (kS H 200 [] (pick args pass))
mutual
def Ew:AV→List Nat
 | .ref id _ _ _=>[id]
 | .fn _ cs=>kw cs
 | .agg cs=>kw cs
 | .tup cs=>kw cs
 | .lit _=>[]
 | .sl _=>[]
 | .own _=>[]
 | .loc _=>[]
 | .ptr ..=>[]
 | .mp ..=>[]
 | .dead=>[]
def kw:List AV→List Nat
 | []=>[]
 | c::cs=>Ew c++kw cs
end
def dL (ps:List (Nat × Nat × Nat)):List Nat→Hp→Hp
 | [],H=>H
 | id::r,H=>match inPs ps id with
  | some _=>dL ps r H
  | none=>(match hget H id with
   | some (v,blk)=>(match blk with
    | .row _ rows=>dL ps r ((id,v,.tree (bc rows))::H)
    | _=>dL ps r H)
   | none=>dL ps r H)
def mD:List Nat→Bool
 | []=>true
 | x::r=>!r.contains x&&mD r
def okPs (d:Nat)(ps:List (Nat × Nat × Nat)):Bool:=ps.all (fun p=>!(p.1 / 64 == d)&&Nat.blt p.2.2 20000)&&mD (ps.map (fun p=>p.1))&&mD (ps.map (fun p=>p.2.2))
def frsH:Hp→Bool
 | []=>true
 | (_,_,b)::r=>frsB b&&frsH r
def rho (d clk:Nat)(ps:List (Nat × Nat × Nat))(k v:Nat):Option (Nat × Nat):=
 if v=0 then fJ ps k else if v=1 then (if 20000≤k then (if k<20064 then some (bg d (k - 20000),clk) else none) else none) else none
def qM (d clk:Nat)(ps:List (Nat × Nat × Nat))(h':Hp)(k want v:Nat):Nat × Blk:=
 match hget h' k with
 | some (x,b)=>if x=want then (v,renB (rho d clk ps) b) else (clk+1,.gone)
 | none=>(clk+1,.gone)
def oP (d clk:Nat)(ps:List (Nat × Nat × Nat))(h':Hp):List (Nat × Nat × Nat)→Hp→Hp
 | [],rest=>rest
 | (c,v,k)::r,rest=>(c,qM d clk ps h' k 0 v)::oP d clk ps h' r rest
def rets (d clk:Nat)(ps:List (Nat × Nat × Nat))(h':Hp):List Nat→Hp→Hp
 | [],rest=>rest
 | k::r,rest=>(bg d (k - 20000),qM d clk ps h' k 1 clk)::rets d clk ps h' r rest
def rids:Hp→List Nat
 | []=>[]
 | (k,_,_)::r=>if 20000≤k then (if k<20064 then k::rids r else rids r) else rids r
def iS (d:Nat):Hp→Hp
 | []=>[]
 | (id,v,b)::r=>if id / 64=d then iS d r else (id,v,b)::iS d r
def back (d clk:Nat)(ps:List (Nat × Nat × Nat))(h' H:Hp):Hp:=oP d clk ps h' ps (rets d clk ps h' (rids h') (iS d H))
inductive Mark {α:Type} (a:α):Type
 | mk
def CO (P:Program)(f:Nat)(as:List AV)(h:Hp)(Q:AV→Hp→Prop)(_:Mark Q):Prop:=∃ r h',ai P f as h r h'∧Q r h'
theorem af {P:Program}{f:Nat}{as:List AV}{h:Hp}{Q:AV→Hp→Prop}{m:Mark Q}{r:AV}{h':Hp}(hc:ai P f as h r h')(hq:Q r h'):CO P f as h Q m:=⟨r,h',hc,hq⟩
def fixN:Bool→List AV→List AV→List AV
 | true,.lit v::r,_::q=>.lit v::fixN true r q
 | true,_::r,b::q=>b::fixN true r q
 | _,_,q=>q
theorem Cv (a b:List AV):fixN false a b=b:=by cases a <;> cases b <;> rfl
def oq (P:Program)(d f:Nat)(ps:List (Nat × Nat × Nat))(H:Hp)(clk:Nat)(sn nl:Bool)(args:List AV)(Q:AV→Hp→Nat→Prop):Prop:=
 okPs d ps=true∧(match trL ps H sn args with
  | some as=>(match ent ps H sn ps with
   | some h=>CO P f (fixN nl args as) h (fun r h'=>(sn=true→frs r=true∧frsH h'=true)∧Q (ren (rho d clk ps) r) (back d clk ps h' H) (clk+2)) .mk
   | none=>False)
  | none=>False)
def qN (P:Program)(md:Nat→List AV→Md)(d f:Nat)(H:Hp)(clk:Nat)(args:List AV)(Q:AV→Hp→Nat→Prop):Prop:=
 if (md f args).keep then oq P d f (psOf H (md f args).pass args) (dL (psOf H (md f args).pass args) (kw args) H) clk false ((md f args).pass.contains 1000) args Q
 else oq P d f (psOf H (md f args).pass args) H clk true ((md f args).pass.contains 1000) args Q
section
variable {P:Program} {fr:Fr} {nt:Nat} {env:Env} {H:Hp} {clk:Nat} {K:Nat→Prop} {M:Nat→Cb} {tmps:Array Value} {w:World} {ps:List (Nat × Nat × Nat)}
theorem mE:∀ {l:List Nat},mD l=true→l.Nodup
 | [],_=>by simp
 | x::r,h=>by
  simp only[mD,Bool.and_eq_true,Bool.not_eq_true',List.contains_eq_mem]at h
  exact List.nodup_cons.2 ⟨by simpa using h.1,mE h.2⟩
theorem Cw:∀ {h:Hp},frsH h=true→∀ id ver b,hget h id=some (ver,b)→frsB b=true
 | [],_,_,_,_,hg=>by simp[hget]at hg
 | (k,v,b)::r,h,id,ver,b',hg=>by
  simp only[frsH,Bool.and_eq_true]at h
  simp only[ep]at hg
  split at hg
  ·cases hg;exact h.1
  exact Cw h.2 id ver b' hg
theorem gj (k:Nat)(x:Nat × Blk)(r:Hp)(i:Nat):hget ((k,x)::r) i=if k=i then some x else hget r i:=rfl
theorem oQ (d:Nat):∀ (H:Hp) (id:Nat),id / 64≠d→hget (iS d H) id=hget H id
 | [],_,_=>rfl
 | (k,v,b)::r,id,h=>by
  simp only[iS]
  split
  ·rename_i hk
   have hne:k≠id:=fun e=>h (by rw[← e];exact hk)
   rw[oQ d r id h,ep,if_neg hne]
  rw[ep,ep,oQ d r id h]
theorem mZ (d:Nat):∀ (H:Hp) (id:Nat),id / 64=d→hget (iS d H) id=none
 | [],_,_=>rfl
 | (k,v,b)::r,id,h=>by
  simp only[iS]
  split
  ·exact mZ d r id h
  rename_i hk
  have hne:k≠id:=fun e=>hk (by rw[e];exact h)
  rw[ep,if_neg hne,mZ d r id h]
theorem rI (d:Nat)(h':Hp)(id:Nat)(rest:Hp):∀ (l:List (Nat × Nat × Nat)),hget (oP d clk ps h' l rest) id=match inPs l id with
  | some (v,k)=>some (qM d clk ps h' k 0 v)
  | none=>hget rest id
 | []=>rfl
 | (c,v,k)::r=>by
  simp only[oP,gj,inPs]
  by_cases hc:c=id
  ·simp only[hc,if_true]
  simp only[hc,if_false]
  exact rI d h' id rest r
theorem Ex (d:Nat)(h':Hp)(id:Nat)(rest:Hp)(hr:id / 64=d→hget rest id=none)(l:List Nat)(x:Nat × Blk)(hl:∀ k,k∈l→20000≤k∧k<20064)(hg:hget (rets d clk ps h' l rest) id=some x) :
  (id / 64=d∧x=qM d clk ps h' (20000+id % 64) 1 clk)∨(id / 64≠d∧hget rest id=some x):=by
 induction l with
 | nil=>
  simp only[rets]at hg
  by_cases hd:id / 64=d
  ·rw[hr hd]at hg;cases hg
  exact .inr ⟨hd,hg⟩
 | cons k r ih=>
  simp only[rets,gj]at hg
  by_cases hk:bg d (k - 20000)=id
  ·rw[if_pos hk]at hg
   have hx:=Option.some.inj hg
   have hb:=hl k List.mem_cons_self
   unfold bg at hk
   refine .inl ⟨by omega,?_⟩
   rw[show 20000+id % 64=k by omega]
   exact hx.symm
  rw[if_neg hk]at hg
  exact ih (fun k hk=>hl k (List.mem_cons_of_mem _ hk)) hg
theorem qO:∀ {h:Hp} {k:Nat},k∈rids h→20000≤k∧k<20064
 | [],_,h=>by simp[rids]at h
 | (k',v,b)::r,k,h=>by
  simp only[rids]at h
  split at h
  ·split at h
   ·rcases List.mem_cons.1 h with rfl|h
    ·omega
    exact qO h
   exact qO h
  exact qO h
theorem Hd {d k:Nat}(h1:20000≤k)(h2:k<20064):rho d clk ps k 1=some (bg d (k - 20000),clk):=by
 unfold rho
 rw[if_neg (by decide),if_pos rfl,if_pos h1,if_pos h2]
theorem Cx {w:World}{K K':Nat→Prop}{clk clk':Nat}{H H':Hp}{M M':Nat→Cb}:∀ (nl:Bool) (args as:List AV) (vs:List Value),al w K clk H M args vs→al w K' clk' H' M' as vs→al w K' clk' H' M' (fixN nl args as) vs
 | false,a,b,vs,_,h=>by rw[Cv];exact h
 | true,[],b,vs,_,h=>by
  have:fixN true [] b=b:=by cases b <;> rfl
  rw[this];exact h
 | true,a::r,[],vs,_,h=>by
  have:fixN true (a::r) []=[]:=by cases a <;> rfl
  rw[this];exact h
 | true,a::r,b::q,[],h1,h2=>by simp[al]at h2
 | true,a::r,b::q,v::vs,h1,h2=>by
  simp only[al]at h1 h2
  have ih:=Cx true r q vs h1.2 h2.2
  cases a <;> simp only[fixN,al] <;> first|exact⟨h2.1,ih⟩|exact⟨by simpa only [erep] using h1.1,ih⟩
theorem Ba (R:Rel fr nt ⟨env,H,clk⟩ K M tmps w){d f:Nat}{sn nl:Bool}{args:List AV}{vs:Array Value}{Q:AV→Hp→Nat→Prop}(ha:al w K clk H M args vs.toList)(h:oq P d f ps H clk sn nl args Q) :
  (∃ fn,P.funcs[f]?=some fn∧(fn.name == "runtime.NumGoroutine")=false∧fn.body.isNone=false) ∧
  Calls P f vs w (fun e w'=>∃ v K' M' av H' clk',e=.returned v∧Rel fr nt ⟨env,H',clk'⟩ K' M' tmps w'∧erep w' K' clk' H' M' av v∧Q av H' clk'):=by
 obtain⟨hps,h⟩:=h
 unfold okPs at hps
 simp only[Bool.and_eq_true]at hps
 obtain⟨⟨hall,hc⟩,hk⟩:=hps
 have hc:=mE hc
 have hk:=mE hk
 have hmem:∀ c v k,(c,v,k)∈ps→c / 64≠d∧k<20000:=by
  intro c v k hm
  have:=List.all_eq_true.1 hall _ hm
  simp only[Bool.and_eq_true,Bool.not_eq_true',beq_eq_false_iff_ne,Nat.blt_eq]at this
  exact this
 split at h
 ·rename_i as hargs
  split at h
  ·rename_i h0 hent
   obtain⟨r,h',hok,hfr,hQ⟩:=h
   have HO:=R.heap
   simp only at HO
   have hE:=IY HO hk hent hc
   refine⟨hok.1,Calls.mono (hok.2 w _ _ vs (R.glob.mono (fun b hb=>⟨rfl,.inl hb⟩)) hE (Cx nl _ _ _ ha (qq HO hk hent _ _ _ ha hargs))) ?_⟩
   rintro e w' ⟨v,K',M',rfl,R',hv⟩
   let σ:Nat→Option Nat:=fun id=>match inPs ps id with
    | some (_,k)=>some k
    | none=>if id / 64=d then some (20000+id % 64) else none
   have hσ1:∀ id v k,inPs ps id=some (v,k)→σ id=some k:=fun id v k hi=>by simp only[σ,hi]
   have hσ2:∀ id,inPs ps id=none→id / 64=d→σ id=some (20000+id % 64):=fun id hi hd=>by simp only[σ,hi,hd,if_true]
   have hσ3:∀ id,inPs ps id=none→id / 64≠d→σ id=none:=fun id hi hd=>by simp only[σ,hi,hd,if_false]
   have nin:∀ id,id / 64=d→inPs ps id=none:=by
    intro id hd
    cases hi:inPs ps id with
    | none=>rfl
    | some x=>
     obtain⟨v,k⟩:=x
     exact absurd hd (hmem _ _ _ (fx hi)).1
   have hback:∀ k want v x b,qM d clk ps h' k want v=(x,b)→(b=.gone∧x=clk+1)∨∃ b0,hget h' k=some (want,b0)∧b=renB (rho d clk ps) b0∧x=v:=by
    intro k want v x b hb
    unfold qM at hb
    split at hb
    ·rename_i y b0 hg
     split at hb
     ·rename_i hy
      cases hb
      exact .inr ⟨b0,by rw[hg,hy],rfl,rfl⟩
     cases hb;exact .inl ⟨rfl,rfl⟩
    cases hb;exact .inl ⟨rfl,rfl⟩
   have key:∀ {A B:Prop},(A→B)→A→B:=fun f a=>f a
   refine key (fun hm=>?_) (R.merge σ (rho d clk ps) (back d clk ps h' H) h0 h' (KP K ps H M sn) (if sn then K else K') K' (MC ps M) M' R' ?_ ?_ ?_ ?_ (fun b hb=>.inl hb) ?_)
   ·obtain⟨R2,hres⟩:=hm
    refine⟨v,_,_,_,_,_,rfl,R2,hres r v ?_ hv,hQ⟩
    cases sn with
    | false=>exact .inl rfl
    | true=>exact .inr (hfr rfl).1
   ·intro id id' k h1 h2
    simp only[σ]at h1 h2
    split at h1
    ·rename_i v1 k1 hi1
     cases h1
     split at h2
     ·rename_i v2 k2 hi2
      cases h2
      have e1:=eo hk (fx hi1)
      have e2:=eo hk (fx hi2)
      rw[e1]at e2
      cases e2
      rfl
     split at h2
     ·cases h2
      have:=(hmem _ _ _ (fx hi1)).2
      omega
     cases h2
    split at h1
    ·cases h1
     split at h2
     ·rename_i v2 k2 hi2
      cases h2
      have:=(hmem _ _ _ (fx hi2)).2
      omega
     split at h2
     ·have:=Option.some.inj h2
      omega
     cases h2
    cases h1
   ·intro id ver b hg
    unfold back at hg
    rw[rI]at hg
    cases hi:inPs ps id with
    | some x=>
     obtain⟨v0,k⟩:=x
     rw[hi]at hg
     simp only[Option.some.injEq]at hg
     rw[hσ1 id v0 k hi]
     simp only
     rcases hback _ _ _ _ _ hg with h1|⟨b0,h1,h2,h3⟩
     ·exact .inl h1
     refine .inr ⟨0,b0,h1,h2,?_⟩
     simp only[rho,if_true]
     rw[h3]
     exact eo hk (fx hi)
    | none=>
     rw[hi]at hg
     simp only at hg
     obtain⟨hd,hx⟩|⟨hd,hx⟩:=Ex d h' id (iS d H) (fun hd=>mZ d H id hd) (rids h') (ver,b) (fun k hk=>qO hk) hg
     ·rw[hσ2 id hi hd]
      simp only
      rcases hback _ _ _ _ _ hx.symm with h1|⟨b0,h1,h2,h3⟩
      ·exact .inl h1
      refine .inr ⟨1,b0,h1,h2,?_⟩
      have h4:20000≤20000+id % 64:=by omega
      have h5:20000+id % 64<20064:=by omega
      rw[Hd h4 h5,h3]
      have h6:bg d (20000+id % 64 - 20000)=id:=by unfold bg;omega
      rw[h6]
     rw[hσ3 id hi hd]
     rwa [oQ d H id hd]at hx
   ·intro k v0 id ver hr
    unfold rho at hr
    split at hr
    ·rename_i hv0
     have hin:=ik hc (kv hr)
     obtain⟨h1,h2⟩:=Cu hent hr
     exact⟨hσ1 id ver k hin,.inr ⟨hv0,h2,h1,by simp only[MC,hr]⟩⟩
    split at hr
    ·rename_i hv1
     split at hr
     ·split at hr
      ·rename_i h1 h2
       obtain⟨h3,h4⟩:=Prod.mk.inj (Option.some.inj hr)
       subst h3 h4
       have hd:bg d (k - 20000) / 64=d:=by unfold bg;omega
       refine⟨?_,.inl ⟨rfl,hv1⟩⟩
       rw[hσ2 _ (nin _ hd) hd]
       have h6:20000+bg d (k - 20000) % 64=k:=by unfold bg;omega
       rw[h6]
      cases hr
     cases hr
    cases hr
   ·intro k x b hg
    obtain⟨c,v1,blk,h1,h2,h3,h4⟩:=oL hent hg
    refine⟨c,hσ1 c v1 k (ik hc (kv h1)),v1,blk,h3,?_⟩
    simp only[MC,h1]
    exact(Ev HO hk hent (HO.blk c v1 blk h3).2 h4).2
   cases sn with
   | false=>
    refine .inl ⟨by simp,fun b hb=>?_⟩
    rcases hb with hb|⟨h1,_⟩
    ·exact hb
    cases h1
   | true=>exact .inr ⟨by simp,Cw (hfr rfl).2⟩
  exact h.elim
 exact h.elim
theorem fP:∀ (l:List Nat) (H:Hp) (K:Nat→Prop),Rel fr nt ⟨env,H,clk⟩ K M tmps w→∀ args vs,al w K clk H M args vs→∃ K',Rel fr nt ⟨env,dL ps l H,clk⟩ K' M tmps w∧al w K' clk (dL ps l H) M args vs
 | [],H,K,R,args,vs,ha=>⟨K,R,ha⟩
 | id::r,H,K,R,args,vs,ha=>by
  simp only[dL]
  split
  ·exact fP r H K R args vs ha
  split
  ·rename_i v blk hg
   split
   ·rename_i z rows
    refine fP r _ _ (R.freeze hg) args vs (bQ (fun b hb=>⟨rfl,.inl hb⟩) (Nat.le_refl _) ?_ _ _ ha)
    intro j vv b' _ hg'
    by_cases hj:j=id
    ·subst hj
     rw[aK]at hg'
     obtain⟨rfl,rfl⟩:=Prod.mk.inj (Option.some.inj hg')
     exact⟨_,hg,.refl _⟩
    rw[aY hj]at hg'
    exact⟨b',hg',.refl _⟩
   exact fP r H K R args vs ha
  exact fP r H K R args vs ha
theorem FD {md:Nat→List AV→Md}(R:Rel fr nt ⟨env,H,clk⟩ K M tmps w){d f:Nat}{args:List AV}{vs:Array Value}{Q:AV→Hp→Nat→Prop}(ha:al w K clk H M args vs.toList)(h:qN P md d f H clk args Q) :
  (∃ fn,P.funcs[f]?=some fn∧(fn.name == "runtime.NumGoroutine")=false∧fn.body.isNone=false) ∧
  Calls P f vs w (fun e w'=>∃ v K' M' av H' clk',e=.returned v∧Rel fr nt ⟨env,H',clk'⟩ K' M' tmps w'∧erep w' K' clk' H' M' av v∧Q av H' clk'):=by
 unfold qN at h
 split at h
 ·obtain⟨K1,R1,ha1⟩:=fP (ps:=psOf H (md f args).pass args) (kw args) H K R _ _ ha
  exact Ba R1 ha1 h
 exact Ba R ha h
end
end Go.Proofs.Qr
