/- Entries of a journal: written and read. Own work. -/
import Derived.Test.YtjbpfglekblgbaaDoorZeP49
import Derived.Test.YtjbpfglekblgbaaDoorZeP24
set_option linter.all false
set_option maxRecDepth 100000
set_option maxHeartbeats 1000000
namespace Go.Proofs.Qe
open Go Go.Lib
def xu (l:List Int):List ByteArray:=l.map (fun n=>ofL (itoa n))
def gr (l:List UInt8):List Int × Bool:=if l=[45] then ([],true) else match (ay (fun c=>c == 44) l).mapM bT with
 | some r=>(r,true)
 | none=>([],false)
theorem ub (c x:UInt8):sepB (ByteArray.mk #[c]) x=(x == c):=by
 unfold sepB
 show List.contains [c] x=_
 rw [List.contains_cons]
 simp only [List.contains_nil,Bool.or_false]
theorem fm (s:ByteArray)(c:UInt8):iq s (ByteArray.mk #[c])=(ay (fun x=>x == c) (bs s)).map ofL:=by
 unfold iq
 congr 1
 congr 1
 funext x
 exact ub c x
theorem sS {α β:Type}{f:α→Option β}{l:List α}{i:Nat}(hi:i<l.length){r:List β}(h:(l.take i).mapM f=some r):(l.take (i+1)).mapM f=(f l[i]).map (fun y=>r++[y]):=by
 rw [gG hi,List.mapM_append,h]
 cases hf:f l[i] <;> simp [hf]
theorem sT {α β:Type}{f:α→Option β}{l:List α}{i:Nat}(hi:i<l.length)(h:f l[i]=none):l.mapM f=none:=by
 have e:l=l.take i++l[i]::l.drop (i+1):=by rw [← List.drop_eq_getElem_cons hi,List.take_append_drop]
 rw [e,List.mapM_append,List.mapM_cons,h]
 cases (l.take i).mapM f <;> rfl
theorem mL (l:List UInt8):bg (ofL l)=match bT l with | some v=>(v,true) | none=>(0,false):=by
 unfold bg
 rw [cW]
 cases bT l <;> rfl
theorem jB {ws:List (List UInt8)}(hw:ws.length≤2097152)(body:Int × List Int→Option (Step (Int × List Int) (Sum (List Int) (List Int × Bool))))
  (h1:∀ i (hi:i<ws.length) out,body ((i:Int),out)=if (bg (ofL ws[i])).2=true then
    (chk ((out.length+1)*8≤140737488355328) <| chk (out.length+1≤9223372036854775807) <| some (.next (IntKind.wrap .i64 ((i:Int)+1),out++[(bg (ofL ws[i])).1])))
   else some (.done (.inr ([],false))))
  (h2:∀ out,body ((ws.length:Int),out)=some (.done (.inl out))) :
  aA body (0,[])=some (match ws.mapM bT with | some r=>.inl r | none=>.inr ([],false)):=by
 have key:∃ q,aA body (0,[])=some q∧q=(match ws.mapM bT with | some r=>.inl r | none=>.inr ([],false)):=by
  refine dE ws.length (fun i st=>st.1=(i:Int)∧(ws.take i).mapM bT=some st.2∧st.2.length=i) _ ⟨rfl,rfl,rfl⟩ ?_ ?_
  ·rintro i ⟨j,out⟩ hi ⟨rfl,hm,hl⟩
   simp only at hm hl
   rw [h1 i hi,mL]
   cases hn:bT ws[i] with
   | none=>
    simp only [Bool.false_eq_true,if_false]
    rw [sT hi hn]
    exact .inr ⟨_,rfl,rfl⟩
   | some v=>
    simp only [if_true]
    rw [aB (by omega),aB (by omega),wr (by omega) (by omega)]
    refine .inl ⟨_,rfl,rfl,?_,?_⟩
    ·rw [sS hi hm,hn];rfl
    ·simp only [List.length_append,List.length_singleton];omega
  ·rintro ⟨j,out⟩ ⟨rfl,hm,hl⟩
   simp only at hm
   rw [h2]
   rw [List.take_length] at hm
   rw [hm]
   exact ⟨_,rfl,rfl⟩
 obtain ⟨q,hq,rfl⟩:=key
 exact hq
theorem dZ {s:ByteArray}(hs:s.size≤1048576)(c:UInt8):((ay (fun x=>x == c) (bs s))).length≤2097152∧∀ w,w∈ay (fun x=>x == c) (bs s)→(ofL w).size≤1048576:=by
 have h:=gq (fun x=>x == c) (bs s)
 rw [← aQ] at h
 refine ⟨by omega,?_⟩
 intro w hw
 have:=fB _ _ hw
 rw [← aQ] at this
 rw [lm];omega
theorem fZ {s:ByteArray}(hs:s.size≤1048576):bN s=some (gr (bs s)):=by
 obtain ⟨w1,w2⟩:=dZ hs 44
 unfold bN gr
 have e45:s=ByteArray.mk #[45]↔bs s=[45]:=⟨fun h=>by rw [h];rfl,fun h=>jy h⟩
 by_cases h45:s=ByteArray.mk #[45]
 ·rw [if_pos h45,if_pos (e45.1 h45)]
 ·rw [if_neg h45,if_neg (fun h=>h45 (e45.2 h)),iY s _ (by omega),fm]
  simp only [obnd]
  generalize ay (fun c=>c == 44) (bs s)=ws at *
  rw [jB (ws:=ws) w1 _ ?_ ?_]
  ·cases ws.mapM bT <;> rfl
  ·intro i hi out
   unfold cV
   simp only
   rw [if_pos (by rw [List.length_map];omega),dN (by rw [List.length_map];exact hi)]
   simp only [obnd]
   rw [List.getElem_map,iW _ (by have:=w2 _ (List.getElem_mem hi);omega)]
  ·intro out
   unfold cV
   simp only
   rw [if_neg (by rw [List.length_map];omega)]
theorem hN {s:ByteArray}(hs:s.size≤1048576):bM s=some (gr (bs s)):=by
 obtain ⟨w1,w2⟩:=dZ hs 44
 unfold bM gr
 have e45:s=ByteArray.mk #[45]↔bs s=[45]:=⟨fun h=>by rw [h];rfl,fun h=>jy h⟩
 by_cases h45:s=ByteArray.mk #[45]
 ·rw [if_pos h45,if_pos (e45.1 h45)]
 ·rw [if_neg h45,if_neg (fun h=>h45 (e45.2 h)),fY s _ (by omega) (by
   show 1≤_
   omega),fm]
  simp only [obnd]
  generalize ay (fun c=>c == 44) (bs s)=ws at *
  rw [jB (ws:=ws) w1 _ ?_ ?_]
  ·cases ws.mapM bT <;> rfl
  ·intro i hi out
   unfold cU
   simp only
   rw [if_pos (by rw [List.length_map];omega),dN (by rw [List.length_map];exact hi)]
   simp only [obnd]
   rw [List.getElem_map,iV _ (by have:=w2 _ (List.getElem_mem hi);unfold Cnt;omega)]
  ·intro out
   unfold cU
   simp only
   rw [if_neg (by rw [List.length_map];omega)]
def noE:GEntry:=⟨0,[],[],[]⟩
def parW:List (List UInt8)→GEntry × Bool
 | [a,b,c,d]=>match bT a,gr b,gr c,gr d with
  | some n,(x,true),(y,true),(z,true)=>(⟨n,x,y,z⟩,true)
  | _,_,_,_=>(noE,false)
 | _=>(noE,false)
def parE (l:List UInt8):GEntry × Bool:=parW (ay (fun c=>c == 32) l)
theorem four {α:Type}{l:List α}(h:l.length=4):∃ a b c d,l=[a,b,c,d]:=by
 match l,h with
 | [a,b,c,d],_=>exact ⟨a,b,c,d,rfl⟩
theorem qJ {l:List (List UInt8)}(h:l.length≠4):parW l=(noE,false):=by
 match l,h with
 | [],_=>rfl
 | [_],_=>rfl
 | [_,_],_=>rfl
 | [_,_,_],_=>rfl
 | [_,_,_,_],h=>exact absurd rfl h
 | _::_::_::_::_::_,_=>rfl
theorem oz (a:List UInt8)(b c d:List Int × Bool) :
  (if (bg (ofL a)).2=true then
   if b.2=true then
    if c.2=true then
     if d.2=true then
      some ((GEntry.mk (bg (ofL a)).1 b.1 c.1 d.1),true)
     else
      some ((GEntry.mk 0 ([]) ([]) ([])),false)
    else
     some ((GEntry.mk 0 ([]) ([]) ([])),false)
   else
    some ((GEntry.mk 0 ([]) ([]) ([])),false)
  else
   some ((GEntry.mk 0 ([]) ([]) ([])),false))=some (match bT a,b,c,d with
  | some n,(x,true),(y,true),(z,true)=>((⟨n,x,y,z⟩:GEntry),true)
  | _,_,_,_=>(noE,false)):=by
 rw [mL]
 obtain ⟨b1,b2⟩:=b
 obtain ⟨c1,c2⟩:=c
 obtain ⟨d1,d2⟩:=d
 cases bT a <;> cases b2 <;> cases c2 <;> cases d2 <;> rfl
theorem mM {s:ByteArray}(hs:s.size≤1048576):cE s=some (parE (bs s)):=by
 obtain ⟨w1,w2⟩:=dZ hs 32
 unfold cE parE
 rw [iY s _ (by omega),fm]
 simp only [obnd]
 generalize ay (fun c=>c == 32) (bs s)=ws at *
 rw [List.length_map]
 by_cases h4:ws.length=4
 ·obtain ⟨a,b,c,d,rfl⟩:=four h4
  rw [if_pos (by rfl)]
  have ha:=w2 a (by simp)
  have hb:=w2 b (by simp)
  have hc:=w2 c (by simp)
  have hd:=w2 d (by simp)
  have g0:getI ([a,b,c,d].map ofL) 0=some (ofL a):=rfl
  have g1:getI ([a,b,c,d].map ofL) 1=some (ofL b):=rfl
  have g2:getI ([a,b,c,d].map ofL) 2=some (ofL c):=rfl
  have g3:getI ([a,b,c,d].map ofL) 3=some (ofL d):=rfl
  rw [g0]
  simp only
  rw [iW _ (by omega),g1]
  simp only
  rw [fZ hb,g2]
  simp only
  rw [fZ hc,g3]
  simp only
  rw [fZ hd]
  simp only [cW]
  exact oz a _ _ _
 ·rw [if_neg (by omega),qJ h4];rfl
theorem mN {s:ByteArray}(hs:s.size≤1048576):cD s=some (parE (bs s)):=by
 obtain ⟨w1,w2⟩:=dZ hs 32
 unfold cD parE
 rw [fY s _ (by omega) (by
  show 1≤_
  omega),fm]
 simp only [obnd]
 generalize ay (fun c=>c == 32) (bs s)=ws at *
 rw [List.length_map]
 by_cases h4:ws.length=4
 ·obtain ⟨a,b,c,d,rfl⟩:=four h4
  rw [if_pos (by rfl)]
  have ha:=w2 a (by simp)
  have hb:=w2 b (by simp)
  have hc:=w2 c (by simp)
  have hd:=w2 d (by simp)
  have g0:getI ([a,b,c,d].map ofL) 0=some (ofL a):=rfl
  have g1:getI ([a,b,c,d].map ofL) 1=some (ofL b):=rfl
  have g2:getI ([a,b,c,d].map ofL) 2=some (ofL c):=rfl
  have g3:getI ([a,b,c,d].map ofL) 3=some (ofL d):=rfl
  rw [g0]
  simp only
  rw [iV _ (by unfold Cnt;omega),g1]
  simp only
  rw [hN hb,g2]
  simp only
  rw [hN hc,g3]
  simp only
  rw [hN hd]
  simp only [cW]
  exact oz a _ _ _
 ·rw [if_neg (by omega),qJ h4];rfl
theorem pS {α β:Type}{f:α→Option β}:∀ {l:List α} {r:List β},l.mapM f=some r→r.length=l.length
 | [],r,h=>by simp at h;subst h;rfl
 | a::l,r,h=>by
  rw [List.mapM_cons] at h
  cases hf:f a with
  | none=>rw [hf] at h;cases h
  | some y=>
   rw [hf] at h
   cases hm:l.mapM f with
   | none=>rw [hm] at h;cases h
   | some ys=>
    rw [hm] at h
    have:r=y::ys:=by simpa using h.symm
    subst this
    rw [List.length_cons,List.length_cons,pS hm]
theorem pT {α β:Type}{f:α→Option β}:∀ {l:List α} {r:List β},l.mapM f=some r→∀ a,a∈l→∃ b,f a=some b
 | [],_,_,a,ha=>by cases ha
 | x::l,r,h,a,ha=>by
  rw [List.mapM_cons] at h
  cases hf:f x with
  | none=>rw [hf] at h;cases h
  | some y=>
   rw [hf] at h
   cases hm:l.mapM f with
   | none=>rw [hm] at h;cases h
   | some ys=>
    rcases List.mem_cons.1 ha with rfl | ha
    ·exact ⟨y,hf⟩
    ·exact pT hm a ha
theorem uc {l:List UInt8}{v:Int}(h:bT l=some v):1≤l.length:=by
 have:=(iJ h).1
 have h2:=vg v
 rw [← this] at h2
 cases l with
 | nil=>exact absurd rfl h2
 | cons a b=>simp
theorem jC (l:List UInt8)(h:l.length≤1048576):(gr l).1.length≤1048576:=by
 unfold gr
 split
 ·simp
 ·split
  ·rename_i r hr
   rw [pS hr]
   have h1:=gq (fun c:UInt8=>c == 44) l
   have h2:(ay (fun c:UInt8=>c == 44) l).length≤((ay (fun c:UInt8=>c == 44) l).map List.length).sum:=by
    have hall:∀ x,x∈ay (fun c:UInt8=>c == 44) l→1≤x.length:=by
     intro x hx
     obtain ⟨b,hb⟩:=pT hr x hx
     exact uc hb
    generalize ay (fun c:UInt8=>c == 44) l=ws at hall
    induction ws with
    | nil=>simp
    | cons a r ih=>
     have:=ih (fun x hx=>hall x (by simp [hx]))
     have:=hall a (by simp)
     simp only [List.length_cons,List.map_cons,List.sum_cons]
     omega
   show _≤_
   omega
  ·simp
theorem ud (l:List UInt8)(h:l.length≤1048576):FitE (parE l).1:=by
 have hno:FitE noE:=⟨by simp [noE],by simp [noE],by simp [noE]⟩
 unfold parE parW
 split
 ·rename_i a b c d hs
  have hm:∀ x,x∈[a,b,c,d]→x.length≤1048576:=by
   intro x hx
   rw [← hs] at hx
   have:=fB _ _ hx
   omega
  split
  ·rename_i n x y z hn hb hc hd
   have h1:=jC b (hm b (by simp))
   have h2:=jC c (hm c (by simp))
   have h3:=jC d (hm d (by simp))
   rw [hb] at h1
   rw [hc] at h2
   rw [hd] at h3
   exact ⟨h1,h2,h3⟩
  ·exact hno
 ·exact hno
end Go.Proofs.Qe
set_option maxRecDepth 100000
set_option maxHeartbeats 1000000
namespace Go.Proofs.Qe
open Go Go.Lib
def goJ:List (List UInt8)→List GEntry
 | []=>[]
 | w::r=>if r=[] then [] else if (parE w).2=true then (parE w).1::goJ r else []
def dz (l:List UInt8):List GEntry:=goJ (ay (fun c=>c == 10) l)
theorem ue {ws:List (List UInt8)}(h:ws≠[]):(goJ ws).length+1≤ws.length:=by
 induction ws with
 | nil=>exact absurd rfl h
 | cons w r ih=>
  unfold goJ
  split
  ·simp
  ·rename_i hr
   have:=ih hr
   split
   ·simp only [List.length_cons];omega
   ·simp
theorem qK:∀ ws,(∀ w,w∈ws→w.length≤1048576)→∀ e,e∈goJ ws→FitE e
 | [],_,e,he=>by cases he
 | w::r,h,e,he=>by
  unfold goJ at he
  split at he
  ·cases he
  ·split at he
   ·rcases List.mem_cons.1 he with rfl | he
    ·exact ud w (h w (by simp))
    ·exact qK r (fun x hx=>h x (by simp [hx])) e he
   ·cases he
theorem qy {l:List UInt8}(h:l.length≤1048576):(dz l).length≤1048576∧∀ e,e∈dz l→FitE e:=by
 have h1:=gq (fun c:UInt8=>c == 10) l
 have h2:=ue (dK (fun c:UInt8=>c == 10) l)
 refine ⟨by unfold dz;omega,?_⟩
 refine qK _ (fun w hw=>?_)
 have:=fB _ _ hw
 omega
theorem lq {t:ByteArray}(hs:t.size≤1048576):bD t=some (dz (bs t),((dz (bs t)).length:Int)):=by
 have hsz:=aQ t
 unfold bD
 have key:∃ q,aA cy (t,[])=some q∧q=dz (bs t):=by
  refine dE ((bs t).length+1) (fun i st=>(bs st.1).length+i≤(bs t).length∧st.2.length=i∧st.2++dz (bs st.1)=dz (bs t)) _ ⟨Nat.le_refl _,rfl,rfl⟩ ?_ ?_
  ·rintro i ⟨s,out⟩ hi ⟨h1,h2,h3⟩
   simp only at h1 h2 h3
   have hz:=aQ s
   unfold cy
   simp only
   unfold ei xCut
   rw [if_pos (by omega)]
   simp only [obnd]
   have e10:bs (ByteArray.mk #[10])=[10]:=rfl
   rw [e10]
   obtain ⟨c1,c2,c3,c4⟩|⟨c1,c2⟩:=vh (bs s) 10
   ·rw [if_pos c1,mM (by rw [lm];omega),cW]
    simp only
    unfold dz at h3
    rw [c2] at h3
    conv at h3=>lhs;unfold goJ
    rw [if_neg (dK _ _)] at h3
    cases hp:(parE (Lib.cut (bs s) [10]).1).2
    ·rw [hp] at h3
     simp only [Bool.false_eq_true,if_false] at h3 ⊢
     rw [List.append_nil] at h3
     exact .inr ⟨_,rfl,h3⟩
    ·rw [hp] at h3
     simp only [if_true] at h3 ⊢
     rw [aB (by omega),aB (by omega)]
     refine .inl ⟨_,rfl,?_,?_,?_⟩
     ·simp only;rw [cW];omega
     ·simp only [List.length_append,List.length_singleton];omega
     ·simp only
      rw [cW,List.append_assoc]
      exact h3
   ·rw [c1]
    simp only [Bool.false_eq_true,if_false]
    unfold dz at h3
    rw [c2] at h3
    conv at h3=>lhs;unfold goJ
    rw [if_pos rfl,List.append_nil] at h3
    exact .inr ⟨_,rfl,h3⟩
  ·rintro ⟨s,out⟩ ⟨h1,_,_⟩
   simp only at h1
   omega
 obtain ⟨q,hq,rfl⟩:=key
 rw [hq]
 simp only [obnd]
theorem lr {t:ByteArray}(hs:t.size≤1048576):cq t=some (dz (bs t),((dz (bs t)).length:Int)):=by
 have hsz:=aQ t
 obtain ⟨w1,w2⟩:=dZ hs 10
 have hne:=dK (fun c:UInt8=>c == 10) (bs t)
 unfold cq dz
 rw [fY t _ (by omega) (by
  show 1≤_
  omega),fm]
 simp only [obnd]
 generalize ay (fun c=>c == 10) (bs t)=ws at *
 have hlen:1≤ws.length:=by
  cases ws with
  | nil=>exact absurd rfl hne
  | cons a b=>simp
 have key:∃ q,aA (bE (((ws.map ofL).length:Nat):Int) (ws.map ofL)) (0,[])=some q∧q=goJ ws:=by
  rw [List.length_map]
  refine dE ws.length (fun i st=>st.1=(i:Int)∧st.2.length=i∧st.2++goJ (ws.drop i)=goJ ws) _ ⟨rfl,rfl,rfl⟩ ?_ ?_
  ·rintro i ⟨j,out⟩ hi ⟨rfl,h2,h3⟩
   simp only at h2 h3
   unfold bE
   simp only
   rw [if_pos (by omega),dN (by rw [List.length_map];exact hi)]
   simp only [obnd]
   rw [List.getElem_map,mN (w2 _ (List.getElem_mem hi)),cW]
   simp only
   rw [List.drop_eq_getElem_cons hi] at h3
   conv at h3=>lhs;unfold goJ
   rw [List.length_map,wr (x:=((ws.length:Nat):Int) - 1) (by omega) (by omega)]
   cases hp:(parE ws[i]).2
   ·rw [hp] at h3
    simp only [Bool.false_eq_true,if_false,ite_self,List.append_nil] at h3 ⊢
    exact .inr ⟨_,rfl,h3⟩
   ·rw [hp] at h3
    simp only [if_true] at h3 ⊢
    by_cases hl:(i:Int)=((ws.length:Nat):Int) - 1
    ·rw [if_pos hl]
     have:ws.drop (i+1)=[]:=List.drop_eq_nil_of_le (by omega)
     rw [if_pos this,List.append_nil] at h3
     exact .inr ⟨_,rfl,h3⟩
    ·rw [if_neg hl,aB (by omega),aB (by omega),wr (by omega) (by omega)]
     have:ws.drop (i+1)≠[]:=by
      intro he
      have:=congrArg List.length he
      rw [List.length_drop,List.length_nil] at this
      omega
     rw [if_neg this] at h3
     refine .inl ⟨_,rfl,rfl,?_,?_⟩
     ·simp only [List.length_append,List.length_singleton];omega
     ·simp only
      rw [List.append_assoc]
      exact h3
  ·rintro ⟨j,out⟩ ⟨rfl,h2,h3⟩
   simp only at h2 h3
   unfold bE
   simp only
   rw [if_neg (by omega)]
   rw [List.drop_length] at h3
   refine ⟨_,rfl,?_⟩
   rw [← h3]
   show out=out++[]
   rw [List.append_nil]
 obtain ⟨q,hq,rfl⟩:=key
 rw [hq]
theorem mO (t:ByteArray):bF t=some true:=by
 unfold bF
 by_cases h0:1048576<((t.size:Nat):Int)
 ·rw [if_pos h0]
 ·rw [if_neg h0,lr (by omega)]
  simp only [obnd]
  rw [lq (by omega)]
  simp only
  obtain ⟨h1,h2⟩:=qy (l:=bs t) (by rw [← aQ];omega)
  generalize dz (bs t)=L at *
  have hb:=(kE_b (k:=1) h2 L.length (Nat.le_refl _)).1
  have he:(aE 1 L L.length).take L.length=aE 1 L L.length:=List.take_of_length_le (by rw [fR];omega)
  rw [oG _ h1 h2]
  simp only [if_true]
  rw [oH L 1 h1 h2 (by omega) (by omega)]
  simp only
  rw [aB (by rw [fR];omega),he,oI L 1 h1 h2 (by omega) (by omega)]
  simp only
  rw [if_neg (by omega)]
  simp only [if_true]
  rw [if_neg (by omega)]
end Go.Proofs.Qe
set_option maxRecDepth 100000
set_option maxHeartbeats 1000000
namespace Go.Proofs.Qe
open Go Go.Lib
theorem rL {n:ByteArray}(h:pR n=true):1≤(bs n).length∧(bs n).length≤8∧∀ c,c∈bs n→97≤c.toNat∧c.toNat≤122∨48≤c.toNat∧c.toNat≤57:=by
 have h':=of_decide_eq_true h
 have hz:=aQ n
 refine ⟨by omega,by omega,fun c hc=>?_⟩
 obtain ⟨i,hi,rfl⟩:=List.mem_iff_getElem.1 hc
 have h3:=h'.1 i (by omega)
 rw [sO (by omega)] at h3
 have e:n[i]'(by omega)=(bs n)[i]:=rfl
 rw [e] at h3
 have:=of_decide_eq_true h3
 omega
def nmB (s:aj)(k:Int):ByteArray:=((s.nodes[k.toNat]?).map (fun n=>n.name)).getD (ByteArray.mk #[])
theorem sU {s:aj}{k:Int}(h0:0≤k)(h1:k<s.nodes.length):∃ n,getI s.nodes k=some n∧n.name=nmB s k∧n∈s.nodes:=by
 refine ⟨s.nodes[k.toNat]'(by omega),?_,?_,List.getElem_mem _⟩
 ·unfold getI
  rw [if_pos h0,List.getElem?_eq_getElem (by omega)]
 ·unfold nmB
  rw [List.getElem?_eq_getElem (by omega)];rfl
theorem sV {s:aj}(h:mK s=true){n:am}(hn:n∈s.nodes):pR n.name=true:=by
 unfold mK sR at h
 simp only [Bool.and_eq_true,decide_eq_true_eq] at h
 obtain ⟨i,hi,rfl⟩:=List.mem_iff_getElem.1 hn
 have hp:=h.1.1.1.1.2 i hi
 unfold un sP at hp
 rw [List.getElem?_eq_getElem hi] at hp
 simp only [Option.any_some,Bool.and_eq_true] at hp
 exact hp.1.1.1
theorem sW {s:aj}(h:mK s=true){k:Int}(h0:0≤k)(h1:k<s.nodes.length):1≤(bs (nmB s k)).length∧(bs (nmB s k)).length≤8∧∀ c,c∈bs (nmB s k)→97≤c.toNat∧c.toNat≤122∨48≤c.toNat∧c.toNat≤57:=by
 obtain ⟨n,_,e,hn⟩:=sU h0 h1
 rw [← e]
 exact rL (sV h hn)
end Go.Proofs.Qe
set_option maxRecDepth 100000
set_option maxHeartbeats 1000000
namespace Go.Proofs.Qe
open Go Go.Lib
structure TmR (s:aj) (ts:List Int):Prop where
 ok:mK s=true
 len:ts.length=s.nodes.length
 all:∀ i:Nat,i<ts.length→i64 (tm ts i)
theorem TmR.name {s:aj}{ts:List Int}(h:TmR s ts){i:Nat}(hi:i<ts.length):∃ n,getI s.nodes (i:Int)=some n∧n.name=nmB s i∧n.name.size≤8:=by
 have hl:=h.len
 obtain ⟨n,a,b,_⟩:=sU (s:=s) (k:=(i:Int)) (by omega) (by omega)
 refine ⟨n,a,b,?_⟩
 rw [b,aQ]
 exact (sW h.ok (by omega) (by omega)).2.1
end Go.Proofs.Qe
namespace Go.Proofs.Qe
open Go
end Go.Proofs.Qe
