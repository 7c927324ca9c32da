/- Entries of a journal: written and read. Own work. -/
import Derived.Test.YtbmkhnbjfeoggaaGreatDoorYaP49
import Derived.Test.YtbmkhnbjfeoggaaGreatDoorYaP24
set_option linter.all false
set_option maxRecDepth 100000
set_option maxHeartbeats 1000000
namespace Go.Proofs.Qa
open Go Go.Lib
def Px (l:List Int):List ByteArray:=l.map (fun n=>ofL (itoa n))
def qa (l:List UInt8):List Int × Bool:=if l=[45] then ([],true) else match (aN (fun c=>c == 44) l).mapM eo with
 | some r=>(r,true)
 | none=>([],false)
theorem Ko (c x:UInt8):sepB (ByteArray.mk #[c]) x=(x == c):=by
 unfold sepB
 show List.contains [c] x=_
 rw [List.contains_cons]
 simp only [List.contains_nil,Bool.or_false]
theorem nY (s:ByteArray)(c:UInt8):rU s (ByteArray.mk #[c])=(aN (fun x=>x == c) (bs s)).map ofL:=by
 unfold rU
 congr 1
 congr 1
 funext x
 exact Ko c x
theorem Jg {α β:Type}{f:α→Option β}{l:List α}{i:Nat}(hi:i<l.length){r:List β}(h:(l.take i).mapM f=some r):(l.take (i+1)).mapM f=(f l[i]).map (fun y=>r++[y]):=by
 rw [da hi,List.mapM_append,h]
 cases hf:f l[i] <;> simp [hf]
theorem Jh {α β:Type}{f:α→Option β}{l:List α}{i:Nat}(hi:i<l.length)(h:f l[i]=none):l.mapM f=none:=by
 have e:l=l.take i++l[i]::l.drop (i+1):=by rw [← List.drop_eq_getElem_cons hi,List.take_append_drop]
 rw [e,List.mapM_append,List.mapM_cons,h]
 cases (l.take i).mapM f <;> rfl
theorem zD (l:List UInt8):cj (ofL l)=match eo l with | some v=>(v,true) | none=>(0,false):=by
 unfold cj
 rw [iM]
 cases eo l <;> rfl
theorem uy {ws:List (List UInt8)}(hw:ws.length≤2097152)(body:Int × List Int→Option (Step (Int × List Int) (Sum (List Int) (List Int × Bool))))
  (h1:∀ i (hi:i<ws.length) out,body ((i:Int),out)=if (cj (ofL ws[i])).2=true then
    (chk ((out.length+1)*8≤140737488355328) <| chk (out.length+1≤9223372036854775807) <| some (.next (IntKind.wrap .i64 ((i:Int)+1),out++[(cj (ofL ws[i])).1])))
   else some (.done (.inr ([],false))))
  (h2:∀ out,body ((ws.length:Int),out)=some (.done (.inl out))) :
  ao body (0,[])=some (match ws.mapM eo with | some r=>.inl r | none=>.inr ([],false)):=by
 have key:∃ q,ao body (0,[])=some q∧q=(match ws.mapM eo with | some r=>.inl r | none=>.inr ([],false)):=by
  refine cP ws.length (fun i st=>st.1=(i:Int)∧(ws.take i).mapM eo=some st.2∧st.2.length=i) _ ⟨rfl,rfl,rfl⟩ ?_ ?_
  ·rintro i ⟨j,out⟩ hi ⟨rfl,hm,hl⟩
   simp only at hm hl
   rw [h1 i hi,zD]
   cases hn:eo ws[i] with
   | none=>
    simp only [Bool.false_eq_true,if_false]
    rw [Jh hi hn]
    exact .inr ⟨_,rfl,rfl⟩
   | some v=>
    simp only [if_true]
    rw [am (by omega),am (by omega),wr (by omega) (by omega)]
    refine .inl ⟨_,rfl,rfl,?_,?_⟩
    ·rw [Jg hi hm,hn];rfl
    ·simp only [List.length_append,List.length_singleton];omega
  ·rintro ⟨j,out⟩ ⟨rfl,hm,hl⟩
   simp only at hm
   rw [h2]
   rw [List.take_length] at hm
   rw [hm]
   exact ⟨_,rfl,rfl⟩
 obtain ⟨q,hq,rfl⟩:=key
 exact hq
theorem lQ {s:ByteArray}(hs:s.size≤1048576)(c:UInt8):((aN (fun x=>x == c) (bs s))).length≤2097152∧∀ w,w∈aN (fun x=>x == c) (bs s)→(ofL w).size≤1048576:=by
 have h:=pY (fun x=>x == c) (bs s)
 rw [← bm] at h
 refine ⟨by omega,?_⟩
 intro w hw
 have:=oI _ _ hw
 rw [← bm] at this
 rw [xm];omega
theorem pF {s:ByteArray}(hs:s.size≤1048576):dS s=some (qa (bs s)):=by
 obtain ⟨w1,w2⟩:=lQ hs 44
 unfold dS qa
 have e45:s=ByteArray.mk #[45]↔bs s=[45]:=⟨fun h=>by rw [h];rfl,fun h=>uo h⟩
 by_cases h45:s=ByteArray.mk #[45]
 ·rw [if_pos h45,if_pos (e45.1 h45)]
 ·rw [if_neg h45,if_neg (fun h=>h45 (e45.2 h)),sZ s _ (by omega),nY]
  simp only [obnd]
  generalize aN (fun c=>c == 44) (bs s)=ws at *
  rw [uy (ws:=ws) w1 _ ?_ ?_]
  ·cases ws.mapM eo <;> rfl
  ·intro i hi out
   unfold iF
   simp only
   rw [if_pos (by rw [List.length_map];omega),aA (by rw [List.length_map];exact hi)]
   simp only [obnd]
   rw [List.getElem_map,sX _ (by have:=w2 _ (List.getElem_mem hi);omega)]
  ·intro out
   unfold iF
   simp only
   rw [if_neg (by rw [List.length_map];omega)]
theorem rn {s:ByteArray}(hs:s.size≤1048576):dR s=some (qa (bs s)):=by
 obtain ⟨w1,w2⟩:=lQ hs 44
 unfold dR qa
 have e45:s=ByteArray.mk #[45]↔bs s=[45]:=⟨fun h=>by rw [h];rfl,fun h=>uo h⟩
 by_cases h45:s=ByteArray.mk #[45]
 ·rw [if_pos h45,if_pos (e45.1 h45)]
 ·rw [if_neg h45,if_neg (fun h=>h45 (e45.2 h)),pE s _ (by omega) (by
   show 1≤_
   omega),nY]
  simp only [obnd]
  generalize aN (fun c=>c == 44) (bs s)=ws at *
  rw [uy (ws:=ws) w1 _ ?_ ?_]
  ·cases ws.mapM eo <;> rfl
  ·intro i hi out
   unfold iD
   simp only
   rw [if_pos (by rw [List.length_map];omega),aA (by rw [List.length_map];exact hi)]
   simp only [obnd]
   rw [List.getElem_map,sW _ (by have:=w2 _ (List.getElem_mem hi);unfold Cnt;omega)]
  ·intro out
   unfold iD
   simp only
   rw [if_neg (by rw [List.length_map];omega)]
def noE:GEntry:=⟨0,[],[],[]⟩
def parW:List (List UInt8)→GEntry × Bool
 | [a,b,c,d]=>match eo a,qa b,qa c,qa d with
  | some n,(x,true),(y,true),(z,true)=>(⟨n,x,y,z⟩,true)
  | _,_,_,_=>(noE,false)
 | _=>(noE,false)
def parE (l:List UInt8):GEntry × Bool:=parW (aN (fun c=>c == 32) l)
theorem four {α:Type}{l:List α}(h:l.length=4):∃ a b c d,l=[a,b,c,d]:=by
 match l,h with
 | [a,b,c,d],_=>exact ⟨a,b,c,d,rfl⟩
theorem Gx {l:List (List UInt8)}(h:l.length≠4):parW l=(noE,false):=by
 match l,h with
 | [],_=>rfl
 | [_],_=>rfl
 | [_,_],_=>rfl
 | [_,_,_],_=>rfl
 | [_,_,_,_],h=>exact absurd rfl h
 | _::_::_::_::_::_,_=>rfl
theorem BV (a:List UInt8)(b c d:List Int × Bool) :
  (if (cj (ofL a)).2=true then
   if b.2=true then
    if c.2=true then
     if d.2=true then
      some ((GEntry.mk (cj (ofL a)).1 b.1 c.1 d.1),true)
     else
      some ((GEntry.mk 0 ([]) ([]) ([])),false)
    else
     some ((GEntry.mk 0 ([]) ([]) ([])),false)
   else
    some ((GEntry.mk 0 ([]) ([]) ([])),false)
  else
   some ((GEntry.mk 0 ([]) ([]) ([])),false))=some (match eo a,b,c,d with
  | some n,(x,true),(y,true),(z,true)=>((⟨n,x,y,z⟩:GEntry),true)
  | _,_,_,_=>(noE,false)):=by
 rw [zD]
 obtain ⟨b1,b2⟩:=b
 obtain ⟨c1,c2⟩:=c
 obtain ⟨d1,d2⟩:=d
 cases eo a <;> cases b2 <;> cases c2 <;> cases d2 <;> rfl
theorem zE {s:ByteArray}(hs:s.size≤1048576):gu s=some (parE (bs s)):=by
 obtain ⟨w1,w2⟩:=lQ hs 32
 unfold gu parE
 rw [sZ s _ (by omega),nY]
 simp only [obnd]
 generalize aN (fun c=>c == 32) (bs s)=ws at *
 rw [List.length_map]
 by_cases h4:ws.length=4
 ·obtain ⟨a,b,c,d,rfl⟩:=four h4
  rw [if_pos (by rfl)]
  have ha:=w2 a (by simp)
  have hb:=w2 b (by simp)
  have hc:=w2 c (by simp)
  have hd:=w2 d (by simp)
  have g0:getI ([a,b,c,d].map ofL) 0=some (ofL a):=rfl
  have g1:getI ([a,b,c,d].map ofL) 1=some (ofL b):=rfl
  have g2:getI ([a,b,c,d].map ofL) 2=some (ofL c):=rfl
  have g3:getI ([a,b,c,d].map ofL) 3=some (ofL d):=rfl
  rw [g0]
  simp only
  rw [sX _ (by omega),g1]
  simp only
  rw [pF hb,g2]
  simp only
  rw [pF hc,g3]
  simp only
  rw [pF hd]
  simp only [iM]
  exact BV a _ _ _
 ·rw [if_neg (by omega),Gx h4];rfl
theorem zF {s:ByteArray}(hs:s.size≤1048576):gr s=some (parE (bs s)):=by
 obtain ⟨w1,w2⟩:=lQ hs 32
 unfold gr parE
 rw [pE s _ (by omega) (by
  show 1≤_
  omega),nY]
 simp only [obnd]
 generalize aN (fun c=>c == 32) (bs s)=ws at *
 rw [List.length_map]
 by_cases h4:ws.length=4
 ·obtain ⟨a,b,c,d,rfl⟩:=four h4
  rw [if_pos (by rfl)]
  have ha:=w2 a (by simp)
  have hb:=w2 b (by simp)
  have hc:=w2 c (by simp)
  have hd:=w2 d (by simp)
  have g0:getI ([a,b,c,d].map ofL) 0=some (ofL a):=rfl
  have g1:getI ([a,b,c,d].map ofL) 1=some (ofL b):=rfl
  have g2:getI ([a,b,c,d].map ofL) 2=some (ofL c):=rfl
  have g3:getI ([a,b,c,d].map ofL) 3=some (ofL d):=rfl
  rw [g0]
  simp only
  rw [sW _ (by unfold Cnt;omega),g1]
  simp only
  rw [rn hb,g2]
  simp only
  rw [rn hc,g3]
  simp only
  rw [rn hd]
  simp only [iM]
  exact BV a _ _ _
 ·rw [if_neg (by omega),Gx h4];rfl
theorem Fb {α β:Type}{f:α→Option β}:∀ {l:List α} {r:List β},l.mapM f=some r→r.length=l.length
 | [],r,h=>by simp at h;subst h;rfl
 | a::l,r,h=>by
  rw [List.mapM_cons] at h
  cases hf:f a with
  | none=>rw [hf] at h;cases h
  | some y=>
   rw [hf] at h
   cases hm:l.mapM f with
   | none=>rw [hm] at h;cases h
   | some ys=>
    rw [hm] at h
    have:r=y::ys:=by simpa using h.symm
    subst this
    rw [List.length_cons,List.length_cons,Fb hm]
theorem Fc {α β:Type}{f:α→Option β}:∀ {l:List α} {r:List β},l.mapM f=some r→∀ a,a∈l→∃ b,f a=some b
 | [],_,_,a,ha=>by cases ha
 | x::l,r,h,a,ha=>by
  rw [List.mapM_cons] at h
  cases hf:f x with
  | none=>rw [hf] at h;cases h
  | some y=>
   rw [hf] at h
   cases hm:l.mapM f with
   | none=>rw [hm] at h;cases h
   | some ys=>
    rcases List.mem_cons.1 ha with rfl | ha
    ·exact ⟨y,hf⟩
    ·exact Fc hm a ha
theorem Kq {l:List UInt8}{v:Int}(h:eo l=some v):1≤l.length:=by
 have:=(sD h).1
 have h2:=LL v
 rw [← this] at h2
 cases l with
 | nil=>exact absurd rfl h2
 | cons a b=>simp
theorem uz (l:List UInt8)(h:l.length≤1048576):(qa l).1.length≤1048576:=by
 unfold qa
 split
 ·simp
 ·split
  ·rename_i r hr
   rw [Fb hr]
   have h1:=pY (fun c:UInt8=>c == 44) l
   have h2:(aN (fun c:UInt8=>c == 44) l).length≤((aN (fun c:UInt8=>c == 44) l).map List.length).sum:=by
    have hall:∀ x,x∈aN (fun c:UInt8=>c == 44) l→1≤x.length:=by
     intro x hx
     obtain ⟨b,hb⟩:=Fc hr x hx
     exact Kq hb
    generalize aN (fun c:UInt8=>c == 44) l=ws at hall
    induction ws with
    | nil=>simp
    | cons a r ih=>
     have:=ih (fun x hx=>hall x (by simp [hx]))
     have:=hall a (by simp)
     simp only [List.length_cons,List.map_cons,List.sum_cons]
     omega
   show _≤_
   omega
  ·simp
theorem Kr (l:List UInt8)(h:l.length≤1048576):FitE (parE l).1:=by
 have hno:FitE noE:=⟨by simp [noE],by simp [noE],by simp [noE]⟩
 unfold parE parW
 split
 ·rename_i a b c d hs
  have hm:∀ x,x∈[a,b,c,d]→x.length≤1048576:=by
   intro x hx
   rw [← hs] at hx
   have:=oI _ _ hx
   omega
  split
  ·rename_i n x y z hn hb hc hd
   have h1:=uz b (hm b (by simp))
   have h2:=uz c (hm c (by simp))
   have h3:=uz d (hm d (by simp))
   rw [hb] at h1
   rw [hc] at h2
   rw [hd] at h3
   exact ⟨h1,h2,h3⟩
  ·exact hno
 ·exact hno
end Go.Proofs.Qa
set_option maxRecDepth 100000
set_option maxHeartbeats 1000000
namespace Go.Proofs.Qa
open Go Go.Lib
def goJ:List (List UInt8)→List GEntry
 | []=>[]
 | w::r=>if r=[] then [] else if (parE w).2=true then (parE w).1::goJ r else []
def ja (l:List UInt8):List GEntry:=goJ (aN (fun c=>c == 10) l)
theorem Ks {ws:List (List UInt8)}(h:ws≠[]):(goJ ws).length+1≤ws.length:=by
 induction ws with
 | nil=>exact absurd rfl h
 | cons w r ih=>
  unfold goJ
  split
  ·simp
  ·rename_i hr
   have:=ih hr
   split
   ·simp only [List.length_cons];omega
   ·simp
theorem Gy:∀ ws,(∀ w,w∈ws→w.length≤1048576)→∀ e,e∈goJ ws→FitE e
 | [],_,e,he=>by cases he
 | w::r,h,e,he=>by
  unfold goJ at he
  split at he
  ·cases he
  ·split at he
   ·rcases List.mem_cons.1 he with rfl | he
    ·exact Kr w (h w (by simp))
    ·exact Gy r (fun x hx=>h x (by simp [hx])) e he
   ·cases he
theorem ro {l:List UInt8}(h:l.length≤1048576):(ja l).length≤1048576∧∀ e,e∈ja l→FitE e:=by
 have h1:=pY (fun c:UInt8=>c == 10) l
 have h2:=Ks (kR (fun c:UInt8=>c == 10) l)
 refine ⟨by unfold ja;omega,?_⟩
 refine Gy _ (fun w hw=>?_)
 have:=oI _ _ hw
 omega
theorem xq {t:ByteArray}(hs:t.size≤1048576):fC t=some (ja (bs t),((ja (bs t)).length:Int)):=by
 have hsz:=bm t
 unfold fC
 have key:∃ q,ao fP (t,[])=some q∧q=ja (bs t):=by
  refine cP ((bs t).length+1) (fun i st=>(bs st.1).length+i≤(bs t).length∧st.2.length=i∧st.2++ja (bs st.1)=ja (bs t)) _ ⟨Nat.le_refl _,rfl,rfl⟩ ?_ ?_
  ·rintro i ⟨s,out⟩ hi ⟨h1,h2,h3⟩
   simp only at h1 h2 h3
   have hz:=bm s
   unfold fP
   simp only
   unfold mb xCut
   rw [if_pos (by omega)]
   simp only [obnd]
   have e10:bs (ByteArray.mk #[10])=[10]:=rfl
   rw [e10]
   obtain ⟨c1,c2,c3,c4⟩|⟨c1,c2⟩:=LM (bs s) 10
   ·rw [if_pos c1,zE (by rw [xm];omega),iM]
    simp only
    unfold ja at h3
    rw [c2] at h3
    conv at h3=>lhs;unfold goJ
    rw [if_neg (kR _ _)] at h3
    cases hp:(parE (Lib.cut (bs s) [10]).1).2
    ·rw [hp] at h3
     simp only [Bool.false_eq_true,if_false] at h3 ⊢
     rw [List.append_nil] at h3
     exact .inr ⟨_,rfl,h3⟩
    ·rw [hp] at h3
     simp only [if_true] at h3 ⊢
     rw [am (by omega),am (by omega)]
     refine .inl ⟨_,rfl,?_,?_,?_⟩
     ·simp only;rw [iM];omega
     ·simp only [List.length_append,List.length_singleton];omega
     ·simp only
      rw [iM,List.append_assoc]
      exact h3
   ·rw [c1]
    simp only [Bool.false_eq_true,if_false]
    unfold ja at h3
    rw [c2] at h3
    conv at h3=>lhs;unfold goJ
    rw [if_pos rfl,List.append_nil] at h3
    exact .inr ⟨_,rfl,h3⟩
  ·rintro ⟨s,out⟩ ⟨h1,_,_⟩
   simp only at h1
   omega
 obtain ⟨q,hq,rfl⟩:=key
 rw [hq]
 simp only [obnd]
theorem xr {t:ByteArray}(hs:t.size≤1048576):fA t=some (ja (bs t),((ja (bs t)).length:Int)):=by
 have hsz:=bm t
 obtain ⟨w1,w2⟩:=lQ hs 10
 have hne:=kR (fun c:UInt8=>c == 10) (bs t)
 unfold fA ja
 rw [pE t _ (by omega) (by
  show 1≤_
  omega),nY]
 simp only [obnd]
 generalize aN (fun c=>c == 10) (bs t)=ws at *
 have hlen:1≤ws.length:=by
  cases ws with
  | nil=>exact absurd rfl hne
  | cons a b=>simp
 have key:∃ q,ao (dD (((ws.map ofL).length:Nat):Int) (ws.map ofL)) (0,[])=some q∧q=goJ ws:=by
  rw [List.length_map]
  refine cP ws.length (fun i st=>st.1=(i:Int)∧st.2.length=i∧st.2++goJ (ws.drop i)=goJ ws) _ ⟨rfl,rfl,rfl⟩ ?_ ?_
  ·rintro i ⟨j,out⟩ hi ⟨rfl,h2,h3⟩
   simp only at h2 h3
   unfold dD
   simp only
   rw [if_pos (by omega),aA (by rw [List.length_map];exact hi)]
   simp only [obnd]
   rw [List.getElem_map,zF (w2 _ (List.getElem_mem hi)),iM]
   simp only
   rw [List.drop_eq_getElem_cons hi] at h3
   conv at h3=>lhs;unfold goJ
   rw [List.length_map,wr (x:=((ws.length:Nat):Int) - 1) (by omega) (by omega)]
   cases hp:(parE ws[i]).2
   ·rw [hp] at h3
    simp only [Bool.false_eq_true,if_false,ite_self,List.append_nil] at h3 ⊢
    exact .inr ⟨_,rfl,h3⟩
   ·rw [hp] at h3
    simp only [if_true] at h3 ⊢
    by_cases hl:(i:Int)=((ws.length:Nat):Int) - 1
    ·rw [if_pos hl]
     have:ws.drop (i+1)=[]:=List.drop_eq_nil_of_le (by omega)
     rw [if_pos this,List.append_nil] at h3
     exact .inr ⟨_,rfl,h3⟩
    ·rw [if_neg hl,am (by omega),am (by omega),wr (by omega) (by omega)]
     have:ws.drop (i+1)≠[]:=by
      intro he
      have:=congrArg List.length he
      rw [List.length_drop,List.length_nil] at this
      omega
     rw [if_neg this] at h3
     refine .inl ⟨_,rfl,rfl,?_,?_⟩
     ·simp only [List.length_append,List.length_singleton];omega
     ·simp only
      rw [List.append_assoc]
      exact h3
  ·rintro ⟨j,out⟩ ⟨rfl,h2,h3⟩
   simp only at h2 h3
   unfold dD
   simp only
   rw [if_neg (by omega)]
   rw [List.drop_length] at h3
   refine ⟨_,rfl,?_⟩
   rw [← h3]
   show out=out++[]
   rw [List.append_nil]
 obtain ⟨q,hq,rfl⟩:=key
 rw [hq]
end Go.Proofs.Qa
set_option maxRecDepth 100000
set_option maxHeartbeats 1000000
namespace Go.Proofs.Qa
open Go Go.Lib
theorem HL {n:ByteArray}(h:lP n=true):1≤(bs n).length∧(bs n).length≤8∧∀ c,c∈bs n→97≤c.toNat∧c.toNat≤122∨48≤c.toNat∧c.toNat≤57:=by
 have h':=of_decide_eq_true h
 have hz:=bm n
 refine ⟨by omega,by omega,fun c hc=>?_⟩
 obtain ⟨i,hi,rfl⟩:=List.mem_iff_getElem.1 hc
 have h3:=h'.1 i (by omega)
 rw [pw (by omega)] at h3
 have e:n[i]'(by omega)=(bs n)[i]:=rfl
 rw [e] at h3
 have:=of_decide_eq_true h3
 omega
def nmB (s:GShow)(k:Int):ByteArray:=((s.nodes[k.toNat]?).map (fun n=>n.name)).getD (ByteArray.mk #[])
theorem Ji {s:GShow}{k:Int}(h0:0≤k)(h1:k<s.nodes.length):∃ n,getI s.nodes k=some n∧n.name=nmB s k∧n∈s.nodes:=by
 refine ⟨s.nodes[k.toNat]'(by omega),?_,?_,List.getElem_mem _⟩
 ·unfold getI
  rw [if_pos h0,List.getElem?_eq_getElem (by omega)]
 ·unfold nmB
  rw [List.getElem?_eq_getElem (by omega)];rfl
theorem Jj {s:GShow}(h:aQ s=true){n:GNode}(hn:n∈s.nodes):lP n.name=true:=by
 unfold aQ iO at h
 simp only [Bool.and_eq_true,decide_eq_true_eq] at h
 obtain ⟨i,hi,rfl⟩:=List.mem_iff_getElem.1 hn
 have hp:=h.1.1.1.1.2 i hi
 unfold nX jB at hp
 rw [List.getElem?_eq_getElem hi] at hp
 simp only [Option.any_some,Bool.and_eq_true] at hp
 exact hp.1.1.1
theorem Jk {s:GShow}(h:aQ s=true){k:Int}(h0:0≤k)(h1:k<s.nodes.length):1≤(bs (nmB s k)).length∧(bs (nmB s k)).length≤8∧∀ c,c∈bs (nmB s k)→97≤c.toNat∧c.toNat≤122∨48≤c.toNat∧c.toNat≤57:=by
 obtain ⟨n,_,e,hn⟩:=Ji h0 h1
 rw [← e]
 exact HL (Jj h hn)
end Go.Proofs.Qa
set_option maxRecDepth 100000
set_option maxHeartbeats 1000000
namespace Go.Proofs.Qa
open Go Go.Lib
structure TmR (s:GShow) (ts:List Int):Prop where
 ok:aQ s=true
 len:ts.length=s.nodes.length
 all:∀ i:Nat,i<ts.length→i64 (tm ts i)
theorem TmR.name {s:GShow}{ts:List Int}(h:TmR s ts){i:Nat}(hi:i<ts.length):∃ n,getI s.nodes (i:Int)=some n∧n.name=nmB s i∧n.name.size≤8:=by
 have hl:=h.len
 obtain ⟨n,a,b,_⟩:=Ji (s:=s) (k:=(i:Int)) (by omega) (by omega)
 refine ⟨n,a,b,?_⟩
 rw [b,bm]
 exact (Jk h.ok (by omega) (by omega)).2.1
end Go.Proofs.Qa
namespace Go.Proofs.Qa
open Go
end Go.Proofs.Qa
set_option maxRecDepth 100000
set_option maxHeartbeats 1000000
namespace Go.Proofs.Qa
open Go Go.Lib
noncomputable def qA (s:GShow)(t:List UInt8)(z:Bool):GDesk × Bool:=if (dT s (ja t)).2=true then (⟨s,(dT s (ja t)).1,z,ja t⟩,true) else (po,false)
theorem Jl {s:GShow}(t:List UInt8)(z:Bool)(hf:FitS s)(ht:t.length≤1048576):FitD (qA s t z).1:=by
 obtain ⟨h1,h2⟩:=ro ht
 unfold qA
 split
 ·exact ⟨hf,HB s _,h1,h2⟩
 ·refine ⟨⟨by simp [po],by simp [po],fun n hn=>by simp [po] at hn⟩,⟨by simp [po],by simp [po]⟩,by simp [po],fun e he=>by simp [po] at he⟩
theorem CH {s:GShow}{t:ByteArray}(z:Bool)(hf:FitS s)(ht:t.size≤1048576):fQ s t z=some (qA s (bs t) z):=by
 have hl:(bs t).length≤1048576:=by rw [← bm];exact ht
 obtain ⟨h1,h2⟩:=ro hl
 unfold fQ qA
 rw [xq ht]
 simp only [obnd]
 rw [AS s _ hf h1 h2]
 simp only
 split
 ·rw [FJ s hf]
 ·rfl
theorem CI {s:GShow}{t:ByteArray}(z:Bool)(hf:FitS s)(ht:t.size≤1048576):iE s t z=some (qA s (bs t) z):=by
 have hl:(bs t).length≤1048576:=by rw [← bm];exact ht
 obtain ⟨h1,h2⟩:=ro hl
 unfold iE qA
 rw [xr ht]
 simp only [obnd]
 rw [AU s _ hf h1 h2]
 simp only
 split
 ·rw [Hr s hf]
 ·rfl
theorem FdQ (s:GShow)(t:ByteArray)(z:Bool)(hb:BdS s):fe s t z=some true:=by
 unfold fe
 by_cases h0:1048576<((t.size:Nat):Int)
 ·rw [if_pos h0]
 rw [if_neg h0]
 have ht:t.size≤1048576:=by omega
 obtain ⟨r,hr,hp⟩:=FG hb
 rw [hr]
 simp only [obnd]
 rcases hp with hp | ⟨hf,h1,h1'⟩
 ·rw [if_pos hp]
 rw [if_neg (by omega),Jc s hf];simp only
 rw [CI z hf ht];simp only
 rw [CH z hf ht];simp only
 have f1:=Jl (bs t) z hf (by rw [← bm];exact ht)
 generalize qA s (bs t) z=p at f1 ⊢
 obtain ⟨g,b⟩:=p
 simp only at f1 ⊢
 rw [FK g f1];simp only [if_true]
 rw [wM s hf];simp only [if_true]
 obtain ⟨q0,hq,hq1,hq2⟩:=zq s 1 hf (by omega) (by omega)
 rw [hq];simp only
 rw [if_neg (by omega)]
 obtain ⟨q,n0,n1,n2,n3,n4,n5,n6,n7,n8⟩:=AW g f1
 rw [n0];simp only
 rw [am (by omega),am (by omega),am (by omega),am (by omega),am (by omega),List.take_of_length_le (by omega),List.take_of_length_le (by omega),List.take_of_length_le (by omega),List.take_of_length_le (by omega),List.take_of_length_le (by omega),n8]
 simp only
 rw [if_neg (by omega)]
 simp only [if_true]
 rw [if_neg (by omega)]
end Go.Proofs.Qa
set_option maxRecDepth 100000
set_option maxHeartbeats 1000000
namespace Go.Proofs.Qa
open Go Go.Lib
end Go.Proofs.Qa
