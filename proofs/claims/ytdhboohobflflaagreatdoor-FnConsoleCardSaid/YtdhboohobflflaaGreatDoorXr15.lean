/- A call: what is handed over,and what is done with what comes back. Own work. -/
import Derived.Test.YtdhboohobflflaaGreatDoorXr14
set_option linter.all false
namespace Go.Proofs.Qr
structure Md where
 pass:List Nat
 keep:Bool
def inPs:List (Nat × Nat × Nat)→Nat→Option (Nat × Nat)
 | [],_=>none
 | (c,v,k)::r,id=>if c=id then some (v,k) else inPs r id
def fJ:List (Nat × Nat × Nat)→Nat→Option (Nat × Nat)
 | [],_=>none
 | (c,v,k)::r,j=>if k=j then some (c,v) else fJ r j
def tP (H:Hp)(sn:Bool)(id ver i k:Nat):Option AV:=
 match hget H id with
 | some (v,blk)=>if v=ver then (match blk with
  | .row _ rows=>if sn then (if i+k≤rows.length then some (.sl (bc ((rows.drop i).take k))) else none) else none
  | .tree rows=>if i+k≤rows.length then some (.sl ((rows.drop i).take k)) else none
  | _=>none) else none
 | none=>none
def snC (ps:List (Nat × Nat × Nat))(H:Hp)(sn:Bool):AV→Option AV
 | .lit v=>if v.oneCell' then some (.lit v) else none
 | .sl rows=>some (.sl rows)
 | .ref id ver i k=>(match inPs ps id with
  | some _=>none
  | none=>tP H sn id ver i k)
 | _=>none
def snL (ps:List (Nat × Nat × Nat))(H:Hp)(sn:Bool):List AV→Option (List AV)
 | []=>some []
 | c::cs=>match snC ps H sn c with
  | some c'=>(match snL ps H sn cs with
   | some cs'=>some (c'::cs')
   | none=>none)
  | none=>none
def AC (ps:List (Nat × Nat × Nat))(H:Hp)(sn:Bool)(id ver i o:Nat):Option AV:=
 match hget H id with
 | some (v,blk)=>if v=ver then (match blk with
  | .var cells=>if sn then (if i=0 then (if o≤cells.length then (match snL ps H sn cells with
   | some cs=>some (.loc (cs.drop o))
   | none=>none) else none) else none) else none
  | .row _ rows=>if sn then (match rows[i]? with
   | some r=>if o≤r.length then some (.loc ((bP r).drop o)) else none
   | none=>none) else none
  | .tree rows=>(match rows[i]? with
   | some r=>if o≤r.length then some (.loc (r.drop o)) else none
   | none=>none)
  | _=>none) else none
 | none=>none
def CN:Value→AV
 | .slice none 0 0=>.sl []
 | v=>.lit v
mutual
def tr (ps:List (Nat × Nat × Nat))(H:Hp)(sn:Bool):AV→Option AV
 | .lit v=>some (CN v)
 | .sl rows=>some (.sl rows)
 | .own _=>none
 | .loc cells=>some (.loc cells)
 | .ptr id ver i o=>match inPs ps id with
  | some (v,k)=>if v=ver then some (.ptr k 0 i o) else none
  | none=>AC ps H sn id ver i o
 | .ref id ver i n=>match inPs ps id with
  | some (v,k)=>if v=ver then some (.ref k 0 i n) else none
  | none=>tP H sn id ver i n
 | .fn f caps=>match trL ps H sn caps with
  | some cs=>some (.fn f cs)
  | none=>none
 | .mp id ver=>match inPs ps id with
  | some (v,k)=>if v=ver then some (.mp k 0) else none
  | none=>none
 | .agg cells=>match trL ps H sn cells with
  | some cs=>some (.agg cs)
  | none=>none
 | .tup vs=>match trL ps H sn vs with
  | some cs=>some (.tup cs)
  | none=>none
 | .dead=>some .dead
def trL (ps:List (Nat × Nat × Nat))(H:Hp)(sn:Bool):List AV→Option (List AV)
 | []=>some []
 | c::cs=>match tr ps H sn c with
  | some c'=>(match trL ps H sn cs with
   | some cs'=>some (c'::cs')
   | none=>none)
  | none=>none
end
def trB (ps:List (Nat × Nat × Nat))(H:Hp)(sn:Bool):Blk→Option Blk
 | .var cells=>match trL ps H sn cells with
  | some cs=>some (.var cs)
  | none=>none
 | .row z rows=>some (.row z rows)
 | .tree rows=>some (.tree rows)
 | .map es=>some (.map es)
 | .gone=>none
def ent (ps:List (Nat × Nat × Nat))(H:Hp)(sn:Bool):List (Nat × Nat × Nat)→Option Hp
 | []=>some []
 | (c,v,k)::r=>match hget H c with
  | some (v',blk)=>if v'=v then (match trB ps H sn blk with
   | some b=>(match ent ps H sn r with
    | some h=>some ((k,0,b)::h)
    | none=>none)
   | none=>none) else none
  | none=>none
section
variable {w:World} {K Kp:Nat→Prop} {clk:Nat} {H h:Hp} {M Mc:Nat→Cb} {ps:List (Nat × Nat × Nat)} {sn:Bool}
def KP (K:Nat→Prop)(ps:List (Nat × Nat × Nat))(H:Hp)(M:Nat→Cb)(sn:Bool)(b:Nat):Prop:=
 K b∨(sn=true∧∃ id ver blk,inPs ps id=none∧hget H id=some (ver,blk)∧b∈an blk (M id))
theorem AZ (HO:cL w K clk H M){id ver i k:Nat}(hid:inPs ps id=none){av:AV}{v:Value}(he:erep w K clk H M (.ref id ver i k) v)(h:tP H sn id ver i k=some av) :
  rep w (KP K ps H M sn) av v []:=by
 unfold tP at h
 have hup:∀ b,K b→KP K ps H M sn b:=fun b hb=>.inl hb
 split at h
 ·rename_i v' blk hg
  split at h
  ·rename_i hv
   subst hv
   simp only[erep]at he
   obtain⟨hver,a0,cc,rfl,hnc,hx⟩:=he
   obtain⟨hcap,ha⟩:=hx blk hg
   have hblk:=(HO.blk id _ blk hg).2
   split at h
   ·rename_i z rows
    split at h
    ·rename_i hsn
     split at h
     ·rename_i hin
      cases h
      have hlen:((rows.drop i).take k).length=k:=by rw[List.length_take,List.length_drop];omega
      simp only[rep,true_and]
      by_cases hk0:k=0
      ·subst hk0
       exact .inl ⟨a0,cc,rfl,by simp⟩
      simp only[aB]at hblk
      obtain⟨_,rfl,_⟩|⟨b,off,c,e,h1,h2,h3,h4,hz,h5⟩:=hblk
      ·simp at hin;omega
      rcases ha with ha|⟨b',off',h6,h7⟩
      ·omega
      rw[h1]at h6
      obtain⟨rfl,rfl⟩:=Prod.mk.inj (Option.some.inj h6)
      obtain⟨F1,F2,F3,hF,hr2⟩:=cJ hin h5
      refine .inr ⟨b,_,cc,(M id).sz,by rw[h7,eA,hlen],by rw[eA,hlen];exact hnc,.inr ⟨hsn,id,_,_,hid,hg,by simp[an,h1]⟩,?_⟩
      refine fR hup _ _ _ _ _ (fun x hx=>.inr ⟨hsn,id,_,_,hid,hg,?_⟩) hr2
      simp only[an,h1]
      rw[hF]
      simp[hx]
     cases h
    cases h
   ·rename_i rows
    split at h
    ·rename_i hin
     cases h
     have hlen:((rows.drop i).take k).length=k:=by rw[List.length_take,List.length_drop];omega
     simp only[rep,true_and]
     by_cases hk0:k=0
     ·subst hk0
      exact .inl ⟨a0,cc,rfl,by simp⟩
     simp only[aB]at hblk
     obtain⟨_,rfl,_⟩|⟨b,off,h1,h2,h3,h5⟩:=hblk
     ·simp at hin;omega
     rcases ha with ha|⟨b',off',h6,h7⟩
     ·omega
     rw[h1]at h6
     obtain⟨rfl,rfl⟩:=Prod.mk.inj (Option.some.inj h6)
     obtain⟨F1,F2,F3,hF,hr2⟩:=cJ hin h5
     have hF2:F2=[]:=by
      have:=congrArg List.length hF
      simp at this
      exact List.eq_nil_of_length_eq_zero (by omega)
     subst hF2
     exact .inr ⟨b,_,cc,(M id).sz,by rw[h7,hlen],by rw[hlen];exact hnc,hup b h2,da (fun b hb=>⟨rfl,hup b hb⟩) _ _ _ _ _ rfl (fun _ _=>rfl) hr2⟩
    cases h
   cases h
  cases h
 cases h
theorem IX (HO:cL w K clk H M){c av:AV}{v:Value}(he:erep w K clk H M c v)(h:snC ps H sn c=some av):rep w (KP K ps H M sn) av v []:=by
 unfold snC at h
 split at h
 ·rename_i u
  split at h
  ·rename_i h1
   cases h
   simp only[erep]at he
   simp[rep,he,h1]
  cases h
 ·rename_i rows
  cases h
  simp only[erep]at he
  exact il (fun b hb=>⟨rfl,.inl hb⟩) _ _ _ (by simp) he
 ·split at h
  ·cases h
  rename_i hid
  exact AZ HO hid he h
 cases h
theorem Eu (HO:cL w K clk H M):∀ {cs avs:List AV} {vs:List Value},al w K clk H M cs vs→snL ps H sn cs=some avs→repL w (KP K ps H M sn) avs vs []
 | [],avs,[],_,h=>by simp only[snL]at h;cases h;simp[repL]
 | c::cs,avs,v::vs,he,h=>by
  simp only[al]at he
  simp only[snL]at h
  split at h
  ·rename_i c' hc
   split at h
   ·rename_i cs' hcs
    cases h
    simp only[repL]
    exact⟨[],[],rfl,IX HO he.1 hc,Eu HO he.2 hcs⟩
   cases h
  cases h
 | [],_,_::_,he,_=>by simp[al]at he
 | _::_,_,[],he,_=>by simp[al]at he
theorem wT:∀ {cs avs:List AV},snL ps H sn cs=some avs→avs.length=cs.length
 | [],avs,h=>by simp only[snL]at h;cases h;rfl
 | c::cs,avs,h=>by
  simp only[snL]at h
  split at h
  ·split at h
   ·rename_i cs' hcs
    cases h
    simp[wT hcs]
   cases h
  cases h
theorem lU {b off o:Nat}{cs:List AV}(ho:o≤cs.length)(h:aF w K b off cs []):aF w K b (off+o) (cs.drop o) []:=by
 obtain⟨F1,F2,hF,_,h2⟩:=fS (cs.take o) (cs.drop o) off [] (by rw[List.take_append_drop];exact h)
 have:F2=[]:=by
  have:=congrArg List.length hF
  simp at this
  exact List.eq_nil_of_length_eq_zero (by omega)
 subst this
 rwa [List.length_take,Nat.min_eq_left ho]at h2
theorem FC (HO:cL w K clk H M){id ver i o:Nat}(hid:inPs ps id=none){av:AV}{v:Value}(he:erep w K clk H M (.ptr id ver i o) v)(hh:AC ps H sn id ver i o=some av) :
  erep w (KP K ps H M sn) 1 h Mc av v:=by
 unfold AC at hh
 have hup:∀ b,K b→KP K ps H M sn b:=fun b hb=>.inl hb
 split at hh
 ·rename_i v' blk hg
  split at hh
  ·rename_i hv
   subst hv
   simp only[erep]at he
   obtain⟨hver,ad,rfl,hx⟩:=he
   obtain⟨b,off,hb,rfl⟩:=hx blk hg
   have hblk:=(HO.blk id _ blk hg).2
   split at hh
   ·rename_i cells
    split at hh
    ·rename_i hsn
     split at hh
     ·rename_i hi
      subst hi
      split at hh
      ·rename_i ho
       split at hh
       ·rename_i cs hcs
        cases hh
        simp only[aB]at hblk
        obtain⟨b',c,e,h1,h2,h3,h4⟩:=hblk
        rw[hb]at h1
        obtain⟨rfl,rfl⟩:=Prod.mk.inj (Option.some.inj h1)
        have hL:=Eu (sn:=sn) (ps:=ps) HO h4 hcs
        have hR:aF w (KP K ps H M sn) b 0 cs []:=by
         refine fy cs c.toList 0 [] (fun j v hj=>?_) hL
         simp[World.cell?,h3]
         simpa using hj
        simp only[erep]
        refine⟨b,0+o,by simp,.inr ⟨hsn,id,_,_,hid,hg,by simp[an,hb]⟩,lU (by rw[wT hcs];exact ho) hR⟩
       cases hh
      cases hh
     cases hh
    cases hh
   ·rename_i z rows
    split at hh
    ·rename_i hsn
     split at hh
     ·rename_i r hr
      split at hh
      ·rename_i ho
       cases hh
       simp only[aB]at hblk
       obtain⟨h1,_⟩|⟨b',off',c,e,h1,h2,h3,h4,hz,h5⟩:=hblk
       ·rw[hb]at h1;cases h1
       rw[hb]at h1
       obtain⟨rfl,rfl⟩:=Prod.mk.inj (Option.some.inj h1)
       obtain⟨G,hl,hrr,hG⟩:=cg rows off _ i r h5 hr
       simp only[erep]
       refine⟨b,off+i*(M id).sz+o,rfl,.inr ⟨hsn,id,_,_,hid,hg,by simp[an,hb]⟩,lU (by rw[sq];exact ho) (kX hup _ _ _ G (fun x hx=>.inr ⟨hsn,id,_,_,hid,hg,?_⟩) hrr)⟩
       simp only[an,hb]
       exact List.mem_cons_of_mem _ (hG x hx)
      cases hh
     cases hh
    cases hh
   ·rename_i rows
    split at hh
    ·rename_i r hr
     split at hh
     ·rename_i ho
      cases hh
      simp only[aB]at hblk
      obtain⟨h1,_⟩|⟨b',off',h1,h2,h3,h5⟩:=hblk
      ·rw[hb]at h1;cases h1
      rw[hb]at h1
      obtain⟨rfl,rfl⟩:=Prod.mk.inj (Option.some.inj h1)
      obtain⟨G,hl,hrr,hG⟩:=cg rows off _ i r h5 hr
      have hG0:G=[]:=by
       cases G with
       | nil=>rfl
       | cons x G=>exact absurd (hG x (by simp)) (by simp)
      subst hG0
      simp only[erep]
      exact⟨b,off+i*(M id).sz+o,rfl,hup b h2,lU ho (fQ (fun b hb=>⟨rfl,hup b hb⟩) _ _ _ _ rfl (by simp) hrr)⟩
     cases hh
    cases hh
   cases hh
  cases hh
 cases hh
def MC (ps:List (Nat × Nat × Nat))(M:Nat→Cb)(j:Nat):Cb:=match fJ ps j with|some (c,_)=>M c|none=>⟨none,0,0,[]⟩
theorem fx:∀ {ps:List (Nat × Nat × Nat)} {id v k:Nat},inPs ps id=some (v,k)→(id,v,k)∈ps
 | [],_,_,_,h=>by simp[inPs]at h
 | (c,v',k')::r,id,v,k,h=>by
  simp only[inPs]at h
  split at h
  ·rename_i hc
   cases h
   subst hc
   simp
  exact List.mem_cons_of_mem _ (fx h)
theorem kv:∀ {ps:List (Nat × Nat × Nat)} {c v k:Nat},fJ ps k=some (c,v)→(c,v,k)∈ps
 | [],_,_,_,h=>by simp[fJ]at h
 | (c',v',k')::r,c,v,k,h=>by
  simp only[fJ]at h
  split at h
  ·rename_i hc
   cases h
   subst hc
   simp
  exact List.mem_cons_of_mem _ (kv h)
theorem eo:∀ {ps:List (Nat × Nat × Nat)} {c v k:Nat},(ps.map (fun p=>p.2.2)).Nodup→(c,v,k)∈ps→fJ ps k=some (c,v)
 | [],_,_,_,_,h=>by simp at h
 | (c',v',k')::r,c,v,k,hn,h=>by
  simp only[List.map_cons,List.nodup_cons]at hn
  simp only[fJ]
  rcases List.mem_cons.1 h with h|h
  ·cases h;simp
  have:k'≠k:=fun e=>hn.1 (List.mem_map.2 ⟨_,h,e.symm⟩)
  rw[if_neg this]
  exact eo hn.2 h
theorem ik:∀ {ps:List (Nat × Nat × Nat)} {c v k:Nat},(ps.map (fun p=>p.1)).Nodup→(c,v,k)∈ps→inPs ps c=some (v,k)
 | [],_,_,_,_,h=>by simp at h
 | (c',v',k')::r,c,v,k,hn,h=>by
  simp only[List.map_cons,List.nodup_cons]at hn
  simp only[inPs]
  rcases List.mem_cons.1 h with h|h
  ·cases h;simp
  have:c'≠c:=fun e=>hn.1 (List.mem_map.2 ⟨_,h,e.symm⟩)
  rw[if_neg this]
  exact ik hn.2 h
theorem oL:∀ {l:List (Nat × Nat × Nat)} {h:Hp} {k x:Nat} {b:Blk},ent ps H sn l=some h→hget h k=some (x,b) →
  ∃ c v blk,fJ l k=some (c,v)∧x=0∧hget H c=some (v,blk)∧trB ps H sn blk=some b
 | [],h,k,x,b,he,hg=>by simp only[ent]at he;cases he;simp[hget]at hg
 | (c,v,k')::r,h,k,x,b,he,hg=>by
  simp only[ent]at he
  split at he
  ·rename_i v' blk hb
   split at he
   ·rename_i hv
    subst hv
    split at he
    ·rename_i b' hb'
     split at he
     ·rename_i h1 hh1
      cases he
      simp only[ep]at hg
      simp only[fJ]
      split at hg
      ·rename_i hk
       cases hg
       rw[if_pos hk]
       exact⟨c,v',blk,rfl,rfl,hb,hb'⟩
      rename_i hk
      rw[if_neg hk]
      exact oL hh1 hg
     cases he
    cases he
   cases he
  cases he
theorem Cu:∀ {l:List (Nat × Nat × Nat)} {h:Hp} {k c v:Nat},ent ps H sn l=some h→fJ l k=some (c,v)→k∈h.map (·.1)∧∃ blk,hget H c=some (v,blk)
 | [],h,k,c,v,he,hg=>by simp[fJ]at hg
 | (c',v',k')::r,h,k,c,v,he,hg=>by
  simp only[ent]at he
  split at he
  ·rename_i v1 blk hb
   split at he
   ·rename_i hv
    subst hv
    split at he
    ·rename_i b' hb'
     split at he
     ·rename_i h1 hh1
      cases he
      simp only[fJ]at hg
      split at hg
      ·rename_i hk
       cases hg
       exact⟨by simp[hk],blk,hb⟩
      obtain⟨h2,h3⟩:=Cu hh1 hg
      exact⟨by rw[List.map_cons];exact List.mem_cons_of_mem _ h2,h3⟩
     cases he
    cases he
   cases he
  cases he
section
variable (HO:cL w K clk H M) (hk:(ps.map (fun p=>p.2.2)).Nodup) (he:ent ps H sn ps=some h)
include HO hk he
mutual
theorem LI:∀ (av av':AV) (v:Value),erep w K clk H M av v→tr ps H sn av=some av'→erep w (KP K ps H M sn) 1 h (MC ps M) av' v
 | .lit u,av',v,hv,hh=>by
  simp only[tr]at hh
  cases hh
  simp only[erep]at hv
  subst hv
  unfold CN
  split
  ·simp[erep,rep]
  simp[erep]
 | .sl rows,av',v,hv,hh=>by
  simp only[tr]at hh
  cases hh
  simp only[erep]at hv ⊢
  exact il (fun b hb=>⟨rfl,.inl hb⟩) _ _ _ (by simp) hv
 | .own _,_,_,_,hh=>by simp[tr]at hh
 | .loc cells,av',v,hv,hh=>by
  simp only[tr]at hh
  cases hh
  simp only[erep]at hv ⊢
  obtain⟨b,off,hv,hb,hr⟩:=hv
  exact⟨b,off,hv,.inl hb,fQ (fun b hb=>⟨rfl,.inl hb⟩) _ _ _ _ rfl (by simp) hr⟩
 | .ptr id ver i o,av',v,hv,hh=>by
  simp only[tr]at hh
  split at hh
  ·rename_i v0 k hin
   split at hh
   ·rename_i hvv
    subst hvv
    cases hh
    have hout:=eo hk (fx hin)
    simp only[erep]at hv ⊢
    obtain⟨hver,ad,rfl,hx⟩:=hv
    refine⟨by omega,ad,rfl,fun blk hg=>?_⟩
    obtain⟨c,v1,blk1,h1,_,h2,_⟩:=oL he hg
    rw[hout]at h1
    cases h1
    simp only[MC,hout]
    exact hx blk1 h2
   cases hh
  rename_i hid
  exact FC HO hid hv hh
 | .ref id ver i n,av',v,hv,hh=>by
  simp only[tr]at hh
  split at hh
  ·rename_i v0 k hin
   split at hh
   ·rename_i hvv
    subst hvv
    cases hh
    have hout:=eo hk (fx hin)
    simp only[erep]at hv ⊢
    obtain⟨hver,a,c,rfl,hnc,hx⟩:=hv
    refine⟨by omega,a,c,rfl,hnc,fun blk hg=>?_⟩
    obtain⟨c,v1,blk1,h1,_,h2,_⟩:=oL he hg
    rw[hout]at h1
    cases h1
    simp only[MC,hout]
    exact hx blk1 h2
   cases hh
  rename_i hid
  have hh':=hh
  have:=AZ HO hid hv hh
  unfold tP at hh'
  split at hh' <;> try cases hh'
  split at hh' <;> try cases hh'
  split at hh' <;> try cases hh'
  ·split at hh' <;> try cases hh'
   split at hh' <;> try cases hh'
   simpa only [erep] using this
  split at hh' <;> try cases hh'
  simpa only [erep] using this
 | .fn f caps,av',v,hv,hh=>by
  simp only[tr]at hh
  split at hh
  ·rename_i cs hcs
   cases hh
   simp only[erep]at hv ⊢
   obtain⟨vs,h1,h2⟩:=hv
   exact⟨vs,h1,qq caps cs _ h2 hcs⟩
  cases hh
 | .mp id ver,av',v,hv,hh=>by
  simp only[tr]at hh
  split at hh
  ·rename_i v0 k hin
   split at hh
   ·rename_i hvv
    subst hvv
    cases hh
    have hout:=eo hk (fx hin)
    simp only[erep]at hv ⊢
    obtain⟨hver,r,rfl,hx⟩:=hv
    refine⟨by omega,r,rfl,fun blk hg=>?_⟩
    obtain⟨c,v1,blk1,h1,_,h2,_⟩:=oL he hg
    rw[hout]at h1
    cases h1
    simp only[MC,hout]
    exact hx blk1 h2
   cases hh
  cases hh
 | .agg cells,av',v,hv,hh=>by
  simp only[tr]at hh
  split at hh
  ·rename_i cs hcs
   cases hh
   simp only[erep]at hv ⊢
   obtain⟨vs,h1,h2⟩:=hv
   exact⟨vs,h1,qq cells cs _ h2 hcs⟩
  cases hh
 | .tup xs,av',v,hv,hh=>by
  simp only[tr]at hh
  split at hh
  ·rename_i cs hcs
   cases hh
   simp only[erep]at hv ⊢
   obtain⟨vs,h1,h2⟩:=hv
   exact⟨vs,h1,qq xs cs _ h2 hcs⟩
  cases hh
 | .dead,av',v,_,hh=>by
  simp only[tr]at hh
  cases hh
  simp[erep]
theorem qq:∀ (as as':List AV) (vs:List Value),al w K clk H M as vs→trL ps H sn as=some as'→al w (KP K ps H M sn) 1 h (MC ps M) as' vs
 | [],as',[],_,hh=>by simp only[trL]at hh;cases hh;simp[al]
 | a::as,as',v::vs,hv,hh=>by
  simp only[trL]at hh
  split at hh
  ·rename_i a' ha
   split at hh
   ·rename_i as1 has
    cases hh
    simp only[al]at hv ⊢
    exact⟨LI a a' v hv.1 ha,qq as as1 vs hv.2 has⟩
   cases hh
  cases hh
 | [],_,_::_,hv,_=>by simp[al]at hv
 | _::_,_,[],hv,_=>by simp[al]at hv
end
theorem Ev {blk b:Blk}{cb:Cb}(hb:aB w K clk H M blk cb)(hh:trB ps H sn blk=some b):aB w (KP K ps H M sn) 1 h (MC ps M) b cb∧an b cb=an blk cb:=by
 unfold trB at hh
 split at hh
 ·rename_i cells
  split at hh
  ·rename_i cs hcs
   cases hh
   refine⟨?_,rfl⟩
   simp only[aB]at hb ⊢
   obtain⟨b,c,e,h1,h2,h3,h4⟩:=hb
   exact⟨b,c,e,h1,h2,h3,qq HO hk he _ _ _ h4 hcs⟩
  cases hh
 ·rename_i z rows
  cases hh
  refine⟨?_,rfl⟩
  simp only[aB]at hb ⊢
  rcases hb with hb|⟨b,off,c,e,h1,h2,h3,h4,hz,h5⟩
  ·exact .inl hb
  exact .inr ⟨b,off,c,e,h1,h2,h3,h4,hz,da (fun b hb=>⟨rfl,.inl hb⟩) _ _ _ _ _ rfl (fun _ _=>rfl) h5⟩
 ·rename_i rows
  cases hh
  refine⟨?_,rfl⟩
  simp only[aB]at hb ⊢
  rcases hb with hb|⟨b,off,h1,h2,h3,h5⟩
  ·exact .inl hb
  exact .inr ⟨b,off,h1,.inl h2,h3,da (fun b hb=>⟨rfl,.inl hb⟩) _ _ _ _ _ rfl (by simp) h5⟩
 ·rename_i es
  cases hh
  refine⟨?_,rfl⟩
  simpa only [aB] using hb
 cases hh
theorem IY (hc:(ps.map (fun p=>p.1)).Nodup):cL w (KP K ps H M sn) 1 h (MC ps M):=by
 have key:∀ k x b,hget h k=some (x,b)→∃ c v blk,fJ ps k=some (c,v)∧x=0∧hget H c=some (v,blk)∧MC ps M k=M c∧aB w (KP K ps H M sn) 1 h (MC ps M) b (M c)∧an b (M c)=an blk (M c):=by
  intro k x b hg
  obtain⟨c,v,blk,h1,h2,h3,h4⟩:=oL he hg
  obtain⟨h5,h6⟩:=Ev HO hk he (HO.blk c v blk h3).2 h4
  exact⟨c,v,blk,h1,h2,h3,by simp only[MC,h1],h5,h6⟩
 constructor
 ·intro k x b hg
  obtain⟨c,v,blk,h1,h2,h3,h4,h5,h6⟩:=key k x b hg
  rw[h4]
  exact⟨by omega,h5⟩
 ·intro k x b hg
  obtain⟨c,v,blk,h1,h2,h3,h4,h5,h6⟩:=key k x b hg
  rw[h4,h6]
  exact HO.nodup c v blk h3
 ·intro k x b k' x' b' hg hg' hne y hy
  obtain⟨c,v,blk,h1,h2,h3,h4,h5,h6⟩:=key k x b hg
  obtain⟨c',v',blk',h1',h2',h3',h4',h5',h6'⟩:=key k' x' b' hg'
  rw[h4,h6]at hy
  rw[h4',h6']
  refine HO.disj c v blk c' v' blk' h3 h3' (fun e=>hne ?_) y hy
  subst e
  have e1:=ik hc (kv h1)
  have e2:=ik hc (kv h1')
  rw[e1]at e2
  cases e2
  rfl
 ·intro k x b hg y hy
  obtain⟨c,v,blk,h1,h2,h3,h4,h5,h6⟩:=key k x b hg
  rw[h4,h6]at hy
  obtain⟨h7,h8⟩:=HO.apart c v blk h3 y hy
  refine⟨h7,fun hK=>?_⟩
  rcases hK with hK|⟨_,id,ver,blk',hid,hg',hm⟩
  ·exact h8 hK
  refine HO.disj c v blk id ver blk' h3 hg' (fun e=>?_) y hy hm
  subst e
  rw[ik hc (kv h1)]at hid
  cases hid
 intro b hK
 rcases hK with hK|⟨_,id,ver,blk',hid,hg',hm⟩
 ·exact HO.low b hK
 exact(HO.apart id ver blk' hg' b hm).1
end
end
end Go.Proofs.Qr
