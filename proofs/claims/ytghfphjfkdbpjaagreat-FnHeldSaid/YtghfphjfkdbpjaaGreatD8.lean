/- Slices that go into the cells of others: they are owned there then. Own work. -/
import Derived.Test.YtghfphjfkdbpjaaGreatD7
set_option linter.all false
namespace Go.Proofs.QD
def AB (H:Hp)(clk:Nat):AV→Option (AV × Hp × Nat)
 | .lit v=>match v with
  | .slice none 0 0=>some (.own [],H,clk)
  | v=>if v.oneCell' then some (.lit v,H,clk) else none
 | .sl rows=>some (.sl rows,H,clk)
 | .ref id ver i n=>match hget H id with
  | some (v,blk)=>if v=ver then (match blk with
   | .row z rows=>if (z=true∧i=0∧n=rows.length)∨(0<n∧i+n≤rows.length) then some (.own ((rows.drop i).take n),(id,clk,.gone)::H,clk+1) else none
   | .tree rows=>if i+n≤rows.length then some (.sl ((rows.drop i).take n),H,clk) else none
   | _=>none) else none
  | none=>none
 | _=>none
def mK (H:Hp)(clk:Nat):List AV→Option (List AV × Hp × Nat)
 | []=>some ([],H,clk)
 | c::cs=>match AB H clk c with
  | some (c',H',clk')=>match mK H' clk' cs with
   | some (cs',H'',clk'')=>some (c'::cs',H'',clk'')
   | none=>none
  | none=>none
def repL (w:World)(K:Nat→Prop):List AV→List Value→List Nat→Prop
 | [],[],F=>F=[]
 | c::cs,v::vs,F=>∃ F1 F2,F=F1++F2∧rep w K c v F1∧repL w K cs vs F2
 | _,_,_=>False
structure Free (fr:Fr) (w:World) (K:Nat→Prop) (H:Hp) (M:Nat→Cb) (F:List Nat):Prop where
 nodup:F.Nodup
 lt:∀ x,x∈F→x<w.heap.size
 apart:∀ x,x∈F→¬ K x
 own:∀ x,x∈F→fr.O x∨fr.w.heap.size≤x
 free:∀ x,x∈F→∀ id ver b,hget H id=some (ver,b)→x ∉ au b (M id)
section
variable {P:Program} {fr:Fr} {nt:Nat} {env:Env} {H:Hp} {clk:Nat} {K:Nat→Prop} {M:Nat→Cb} {w:World} {tmps:Array Value} {T:Nat→Ty}
theorem Free.nil:Free fr w K H M []:=⟨by simp,by simp,by simp,by simp,by simp⟩
theorem jd {sz b:Nat}{rows:List (List AV)}{off i n:Nat}{F:List Nat}(hn:i+n≤rows.length)(h:aB w K sz b off rows F):∃ F1 F2 F3,F=F1++F2++F3∧aB w K sz b (off+i*sz) ((rows.drop i).take n) F2:=by
 obtain ⟨F1,F2,rfl,_,h2⟩:=dl (rows.take i) (rows.drop i) off F (by rw [List.take_append_drop];exact h)
 rw [List.length_take,Nat.min_eq_left (by omega)] at h2
 obtain ⟨G1,G2,rfl,h3,_⟩:=dl ((rows.drop i).take n) ((rows.drop i).drop n) _ F2 (by rw [List.take_append_drop];exact h2)
 exact ⟨F1,G1,G2,by simp,h3⟩
theorem Jo (R:Rel fr nt ⟨env,H,clk⟩ K M tmps w){c c':AV}{H':Hp}{clk':Nat}{v:Value}(hx:erep w K clk H M c v)(h:AB H clk c=some (c',H',clk')) :
  Rel fr nt ⟨env,H',clk'⟩ K M tmps w∧kb clk H M H' M∧clk≤clk'∧v.oneCell'=true∧(∀ id ver b,hget H' id=some (ver,b)→b=.gone∨hget H id=some (ver,b)) ∧
  ∃ F,rep w K c' v F∧Free fr w K H' M F∧∀ x,x∈F→∃ id ver b,hget H id=some (ver,b)∧x∈au b (M id):=by
 unfold AB at h
 split at h
 ·rename_i u
  simp only [erep] at hx
  subst hx
  split at h
  ·cases h
   exact ⟨R,.refl _ _ _,Nat.le_refl _,rfl,fun _ _ _ h=>.inr h,[],by simp [rep],.nil,by simp⟩
  ·split at h
   ·rename_i h1
    cases h
    exact ⟨R,.refl _ _ _,Nat.le_refl _,h1,fun _ _ _ h=>.inr h,[],by simp [rep,h1],.nil,by simp⟩
   ·cases h
 ·rename_i rows
  cases h
  simp only [erep] at hx
  refine ⟨R,.refl _ _ _,Nat.le_refl _,?_,fun _ _ _ h=>.inr h,[],hx,.nil,by simp⟩
  simp only [rep] at hx
  rcases hx.2 with ⟨_,c,rfl,_⟩|⟨b,off,cap,sz,rfl,_⟩ <;> rfl
 ·rename_i id ver i n
  split at h
  ·rename_i v' blk hg
   split at h
   ·rename_i hv
    subst hv
    simp only [erep] at hx
    obtain ⟨hver,a0,cc,rfl,hnc,hx⟩:=hx
    obtain ⟨hcap,ha⟩:=hx blk hg
    have hblk:=(R.heap.blk id _ blk hg).2
    simp only at hblk
    split at h
    ·rename_i z rows
     split at h
     ·rename_i hin0
      have hin:i+n≤rows.length:=by omega
      cases h
      have R':=R.letGo id
      have hkeeps:kb clk H M ((id,clk,.gone)::H) M:=by
       intro j vv b' hlt hg'
       by_cases hj:j=id
       ·subst hj
        rw [aN] at hg'
        obtain ⟨rfl,rfl⟩:=Prod.mk.inj (Option.some.inj hg')
        omega
       ·rw [bl hj] at hg'
        exact ⟨b',hg',.refl _⟩
      refine ⟨R',hkeeps,by omega,rfl,?_,?_⟩
      ·intro j vv b' hg'
       by_cases hj:j=id
       ·subst hj
        rw [aN] at hg'
        obtain ⟨rfl,rfl⟩:=Prod.mk.inj (Option.some.inj hg')
        exact .inl rfl
       ·rw [bl hj] at hg'
        exact .inr hg'
      ·have free_of:∀ F,(∀ x,x∈F→x∈au (.row z rows) (M id))→F.Nodup→Free fr w K ((id,clk,.gone)::H) M F:=by
        intro F hF hnd
        refine ⟨hnd,fun x hx=>(R.heap.apart id _ _ hg x (hF x hx)).1,fun x hx=>(R.heap.apart id _ _ hg x (hF x hx)).2,fun x hx=>R.own id _ _ hg x (hF x hx),?_⟩
        intro x hx j vv b' hg'
        by_cases hj:j=id
        ·subst hj
         rw [aN] at hg'
         obtain ⟨rfl,rfl⟩:=Prod.mk.inj (Option.some.inj hg')
         simp [au]
        ·rw [bl hj] at hg'
         exact R.heap.disj id _ _ j vv b' hg hg' (Ne.symm hj) x (hF x hx)
       have hlen:((rows.drop i).take n).length=n:=by rw [List.length_take,List.length_drop];omega
       have hnd:=R.heap.nodup id _ _ hg
       simp only [aC] at hblk
       by_cases hc0:cc=0
       ·subst hc0
        obtain rfl:n=0:=by omega
        refine ⟨[],?_,.nil,by simp⟩
        simp only [rep]
        exact .inl ⟨a0,rfl,by simp,trivial⟩
       ·rcases ha with ha | ⟨b,off,hb,rfl⟩
        ·exact absurd ha hc0
        ·obtain ⟨h1,_⟩|⟨b',off',c,e,h1,h2,h3,h4,hz',h5⟩:=hblk
         ·rw [hb] at h1;cases h1
         ·rw [hb] at h1
          obtain ⟨rfl,rfl⟩:=Prod.mk.inj (Option.some.inj h1)
          obtain ⟨F1,F2,F3,hF,hr⟩:=jd hin h5
          have hn0:0<n:=by
           rcases hin0 with ⟨hzt,_,_⟩ | hin0
           ·rcases Nat.eq_zero_or_pos n with h0 | h0
            ·have:=hz' hzt (List.length_eq_zero_iff.1 (by omega))
             omega
            ·exact h0
           ·exact hin0.1
          have hown:au (.row z rows) (M id)=b::(M id).fp:=by simp [au,hb]
          rw [hown,hF] at hnd
          refine ⟨b::F2,?_,free_of _ ?_ ?_,?_⟩
          ·simp only [rep]
           refine .inr ⟨b,off+i*(M id).sz,cc,c,e,(M id).sz,F2,by intro he;rw [he] at hlen;simp at hlen;omega,by rw [hlen],by rw [hlen];exact hnc,h2,?_,rfl,hr⟩
           rw [← hcap,Nat.add_mul] at h3
           omega
          ·intro x hx
           rw [hown,hF]
           simp only [List.mem_cons,List.mem_append] at hx ⊢
           rcases hx with h | h
           ·exact .inl h
           ·exact .inr (.inl (.inr h))
          ·simp only [List.nodup_cons,List.mem_append,List.nodup_append] at hnd ⊢
           exact ⟨fun h=>hnd.1 (.inl (.inr h)),hnd.2.1.2.1⟩
          ·intro x hx
           refine ⟨id,_,_,hg,?_⟩
           rw [hown,hF]
           simp only [List.mem_cons,List.mem_append] at hx ⊢
           rcases hx with h | h
           ·exact .inl h
           ·exact .inr (.inl (.inr h))
     ·cases h
    ·rename_i rows
     split at h
     ·rename_i hin
      cases h
      have hlen:((rows.drop i).take n).length=n:=by rw [List.length_take,List.length_drop];omega
      refine ⟨R,.refl _ _ _,Nat.le_refl _,rfl,fun _ _ _ h=>.inr h,[],?_,.nil,by simp⟩
      simp only [aC] at hblk
      simp only [rep]
      refine ⟨trivial,?_⟩
      by_cases hc0:cc=0
      ·subst hc0
       obtain rfl:n=0:=by omega
       exact .inl ⟨a0,0,rfl,by simp⟩
      ·rcases ha with ha | ⟨b,off,hb,rfl⟩
       ·exact absurd ha hc0
       ·obtain ⟨h1,_⟩|⟨b',off',h1,h2,h3,h4⟩:=hblk
        ·rw [hb] at h1;cases h1
        ·rw [hb] at h1
         obtain ⟨rfl,rfl⟩:=Prod.mk.inj (Option.some.inj h1)
         obtain ⟨F1,F2,F3,hF,hr⟩:=jd hin h4
         obtain ⟨h6,rfl⟩:=List.nil_eq_append_iff.1 hF
         obtain ⟨rfl,rfl⟩:=List.append_eq_nil_iff.1 h6
         exact .inr ⟨b,_,cc,(M id).sz,by rw [hlen],by rw [hlen];exact hnc,h2,hr⟩
     ·cases h
    ·cases h
   ·cases h
  ·cases h
 ·cases h
theorem Free.keep {H':Hp}{F:List Nat}(h:Free fr w K H M F)(hH:∀ id ver b,hget H' id=some (ver,b)→b=.gone∨hget H id=some (ver,b)):Free fr w K H' M F:=by
 refine { h with free:=fun x hx id ver b hg=>?_ }
 rcases hH id ver b hg with rfl | hg'
 ·simp [au]
 ·exact h.free x hx id ver b hg'
theorem ug:∀ (cs:List AV) (vs:List Value) {H:Hp} {clk:Nat} {cs':List AV} {H':Hp} {clk':Nat},Rel fr nt ⟨env,H,clk⟩ K M tmps w→ay w K clk H M cs vs→mK H clk cs=some (cs',H',clk') →
  Rel fr nt ⟨env,H',clk'⟩ K M tmps w∧kb clk H M H' M∧clk≤clk'∧(∀ v,v∈vs→v.oneCell'=true)∧cs'.length=cs.length∧(∀ id ver b,hget H' id=some (ver,b)→b=.gone∨hget H id=some (ver,b)) ∧
  ∃ F,repL w K cs' vs F∧Free fr w K H' M F∧∀ x,x∈F→∃ id ver b,hget H id=some (ver,b)∧x∈au b (M id)
 | [],[],H,clk,cs',H',clk',R,_,h=>by
  simp only [mK] at h
  cases h
  exact ⟨R,.refl _ _ _,Nat.le_refl _,by simp,rfl,fun _ _ _ h=>.inr h,[],by simp [repL],.nil,by simp⟩
 | c::cs,v::vs,H,clk,cs',H',clk',R,hL,h=>by
  simp only [ay] at hL
  simp only [mK] at h
  split at h
  ·rename_i c1 H1 clk1 h1
   split at h
   ·rename_i cs2 H2 clk2 h2
    cases h
    obtain ⟨R1,hk1,hc1,ho1,hh1,F1,hr1,hf1,hm1⟩:=Jo R hL.1 h1
    have hL2:ay w K clk1 H1 M cs vs:=gP (fun b hb=>⟨rfl,hb⟩) hc1 hk1 _ _ hL.2
    obtain ⟨R2,hk2,hc2,ho2,hl2,hh2,F2,hr2,hf2,hm2⟩:=ug cs vs R1 hL2 h2
    refine ⟨R2,?_,by omega,?_,by simp [hl2],?_,F1++F2,?_,?_,?_⟩
    ·intro id ver b' hlt hg
     obtain ⟨b,hb,hl⟩:=hk2 id ver b' (by omega) hg
     obtain ⟨b0,hb0,hl0⟩:=hk1 id ver b hlt hb
     exact ⟨b0,hb0,.refl _⟩
    ·intro u hu
     rcases List.mem_cons.1 hu with rfl | hu
     ·exact ho1
     ·exact ho2 u hu
    ·intro id ver b hg
     rcases hh2 id ver b hg with rfl | hg
     ·exact .inl rfl
     ·exact hh1 id ver b hg
    ·simp only [repL]
     exact ⟨F1,F2,rfl,hr1,hr2⟩
    ·have hf1':=hf1.keep hh2
     refine ⟨List.nodup_append.2 ⟨hf1.nodup,hf2.nodup,fun x hx y hy he=>?_⟩,?_,?_,?_,?_⟩
     ·subst he
      obtain ⟨id,ver,b,hg,hxb⟩:=hm2 x hy
      exact hf1.free x hx id ver b hg hxb
     ·intro x hx
      rcases List.mem_append.1 hx with hx | hx
      ·exact hf1.lt x hx
      ·exact hf2.lt x hx
     ·intro x hx
      rcases List.mem_append.1 hx with hx | hx
      ·exact hf1.apart x hx
      ·exact hf2.apart x hx
     ·intro x hx
      rcases List.mem_append.1 hx with hx | hx
      ·exact hf1.own x hx
      ·exact hf2.own x hx
     ·intro x hx
      rcases List.mem_append.1 hx with hx | hx
      ·exact hf1'.free x hx
      ·exact hf2.free x hx
    ·intro x hx
     rcases List.mem_append.1 hx with hx | hx
     ·exact hm1 x hx
     ·obtain ⟨id,ver,b,hg,hxb⟩:=hm2 x hx
      rcases hh1 id ver b hg with rfl | hg'
      ·simp [au] at hxb
      ·exact ⟨id,ver,b,hg',hxb⟩
   ·cases h
  ·cases h
 | [],_::_,_,_,_,_,_,_,hL,_=>by simp [ay] at hL
 | _::_,[],_,_,_,_,_,_,hL,_=>by simp [ay] at hL
end
end Go.Proofs.QD
